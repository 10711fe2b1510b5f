/- How arguments that are arrays, or structs of small numbers, are read. -/
import Derived.Test.YthdoeefaibeodaaDoorArr
import Derived.ProofKit
import Derived.OpenShut
import Derived.Below
import Derived.SizedLaws
import Derived.ShutString
namespace Go.Proofs.YthdoeefaibeodaaDoor.Open
open Go.ChangeShapes Go.WideShapes Go.ChangeAt Go.RowKit Go.Proofs.YthdoeefaibeodaaDoor.Ext Go.Proofs.YthdoeefaibeodaaDoorW.PrintWords
set_option linter.unusedVariables false
set_option linter.unusedSimpArgs false

variable {H : Type} {enc : TypeId × Value → H} {P : Program} {w : World} {spare : Nat → Bool} {held : Bool} {t : TypeId}

theorem okWide_array {r : Reach} {base n : Nat} {e : TypeId} {v : Value} (ht : P.underlying t = some (.array n e)) (h : Value.okWide P w r base t v) : ∃ cs, v = .agg cs ∧ cs.size = P.cellsOf t := by
  unfold Value.okWide at h
  rw [ht] at h
  obtain ⟨cs, h1, h2, _⟩ := h
  exact ⟨cs, h1, h2⟩

/-- The cells of a reading of n numbers. -/
theorem arr_list {k : IntKind} {n : Nat} {e : TypeId} {fuel : Nat} {cs : List Value} {x : DataW H × List MemPlace} (ht : P.underlying t = some (.array n e)) (he : P.underlying e = some (.int k)) (hc : P.cellsOf e = 1) (hn : P.cellsOf t = n)
    (h : DataW.trod enc P w 0 spare held fuel t cs = some x) : ∃ l : List Int, cs = nums k l ∧ l.length = n ∧ ∀ y ∈ l, (Lit.int k y).wf = true := by
  obtain ⟨xs, m, _, _, hl, hxs, hi⟩ := DataW.trod_array ht h
  rw [hn] at hl
  have each : ∀ i, i < n → ∃ y, cs[i]? = some (.int k y) ∧ (Lit.int k y).wf = true := by
    intro i hi'
    have h2 := hi i hi'
    rw [hc, Nat.mul_one] at h2
    obtain ⟨z, hz⟩ : ∃ z, xs[i]? = some z := ⟨xs[i]'(by omega), List.getElem?_eq_getElem (by omega)⟩
    rw [hz] at h2
    obtain ⟨y, hy, _, hw⟩ := DataW.trod_int he h2
    refine ⟨y, ?_, hw⟩
    have := congrArg (fun l => l[0]?) hy
    simpa [List.getElem?_take, List.getElem?_drop] using this
  refine ⟨cs.map fun v => (intOf v), ?_, by simpa using hl, ?_⟩
  · apply List.ext_getElem?
    intro i
    by_cases hi' : i < n
    · obtain ⟨y, hy, _⟩ := each i hi'
      simp [nums, hy, intOf]
    · rw [List.getElem?_eq_none (by omega), List.getElem?_eq_none (by simp [nums]; omega)]
  · intro y hy
    rw [List.mem_map] at hy
    obtain ⟨v, hv, rfl⟩ := hy
    obtain ⟨i, hi', rfl⟩ := List.mem_iff_getElem.1 hv
    obtain ⟨y, hy, hw⟩ := each i (by omega)
    rw [List.getElem?_eq_getElem hi'] at hy
    injection hy with hy
    rw [hy]; exact hw

theorem open_arr {k : IntKind} {r : Reach} {b0 n : Nat} {e : TypeId} {v : Value} {d : DataW H} {p : List MemPlace} (ht : P.underlying t = some (.array n e)) (he : P.underlying e = some (.int k)) (hc : P.cellsOf e = 1) (hn : P.cellsOf t = n)
    (hv : Value.okWide P w r b0 t v) (h : DataW.Trod enc P w 0 spare held t v d p) : ∃ l : List Int, v = .agg (cellsK k l) ∧ l.length = n ∧ ∀ y ∈ l, (Lit.int k y).wf = true := by
  obtain ⟨cs, rfl, _⟩ := okWide_array ht hv
  obtain ⟨fuel, hf⟩ := h
  obtain ⟨l, h1, h2, h3⟩ := arr_list ht he hc hn hf
  refine ⟨l, ?_, h2, h3⟩
  unfold cellsK
  rw [← h1]
  simp [Value.cells]

/-- A struct of an array and of numbers of the same kind. -/
theorem open_arr3 {k : IntKind} {r : Reach} {b0 n : Nat} {f0 f1 f2 f3 : Field} {e : TypeId} {v : Value} {d : DataW H} {p : List MemPlace} (ht : P.underlying t = some (.struct #[f0, f1, f2, f3])) (h0 : P.underlying f0.type = some (.array n e)) (he : P.underlying e = some (.int k))
    (hc : P.cellsOf e = 1) (hn : P.cellsOf f0.type = n) (h1 : P.underlying f1.type = some (.int k)) (h2 : P.underlying f2.type = some (.int k)) (h3 : P.underlying f3.type = some (.int k)) (o0 : f0.offset = 0) (o1 : f1.offset = n) (o2 : f2.offset = n + 1) (o3 : f3.offset = n + 2)
    (c1 : P.cellsOf f1.type = 1) (c2 : P.cellsOf f2.type = 1) (c3 : P.cellsOf f3.type = 1) (hC : P.cellsOf t = n + 3)
    (hv : Value.okWide P w r b0 t v) (h : DataW.Trod enc P w 0 spare held t v d p) : ∃ l : List Int, v = .agg (cellsK k l) ∧ l.length = n + 3 ∧ ∀ y ∈ l, (Lit.int k y).wf = true := by
  obtain ⟨cs, rfl, _⟩ := okWide_struct ht hv
  obtain ⟨fuel, hf⟩ := h
  obtain ⟨xs, m, _, _, hl, hxs, hi⟩ := DataW.trod_struct ht hf
  have hlen : xs.length = 4 := by simpa using hxs
  rw [hC] at hl
  have get : ∀ i, i < 4 → ∃ z, xs[i]? = some z := fun i hi' => ⟨xs[i]'(by omega), List.getElem?_eq_getElem (by omega)⟩
  have e0 := hi 0 f0 rfl
  have e1 := hi 1 f1 rfl
  have e2 := hi 2 f2 rfl
  have e3 := hi 3 f3 rfl
  obtain ⟨z0, hz0⟩ := get 0 (by omega)
  obtain ⟨z1, hz1⟩ := get 1 (by omega)
  obtain ⟨z2, hz2⟩ := get 2 (by omega)
  obtain ⟨z3, hz3⟩ := get 3 (by omega)
  rw [hz0, o0, hn, List.drop_zero] at e0
  rw [hz1, o1, c1] at e1
  rw [hz2, o2, c2] at e2
  rw [hz3, o3, c3] at e3
  obtain ⟨l, q1, q2, q3⟩ := arr_list h0 he hc hn e0
  obtain ⟨a, a1, _, a3⟩ := DataW.trod_int h1 e1
  obtain ⟨b, b1, _, b3⟩ := DataW.trod_int h2 e2
  obtain ⟨c, c1', _, c3'⟩ := DataW.trod_int h3 e3
  refine ⟨l ++ [a, b, c], ?_, by simp [q2], ?_⟩
  · unfold cellsK
    have e : nums k (l ++ [a, b, c]) = (Value.agg cs).cells.toList := by
      rw [nums_append, ← q1]
      have : nums k [a, b, c] = [.int k a] ++ ([.int k b] ++ [.int k c]) := rfl
      rw [this, ← a1, ← b1, ← c1']
      generalize (Value.agg cs).cells.toList = L at *
      apply List.ext_getElem?
      intro i
      simp only [List.getElem?_append, List.length_append, List.length_take, List.length_drop, List.getElem?_take, List.getElem?_drop]
      by_cases h1 : i < n
      · rw [if_pos (by omega), if_pos h1]
      · rw [if_neg (by omega)]
        by_cases h2 : i = n
        · subst h2
          rw [if_pos (by omega), if_pos (by omega)]
          congr 1; omega
        · rw [if_neg (by omega)]
          by_cases h3 : i = n + 1
          · subst h3
            rw [if_pos (by omega), if_pos (by omega)]
            congr 1; omega
          · rw [if_neg (by omega)]
            by_cases h4 : i = n + 2
            · subst h4
              rw [if_pos (by omega)]
              congr 1; omega
            · rw [if_neg (by omega), List.getElem?_eq_none (by omega)]
    rw [e]
    simp [Value.cells]
  · intro y hy
    rw [List.mem_append] at hy
    rcases hy with hy | hy
    · exact q3 y hy
    · simp at hy
      rcases hy with rfl | rfl | rfl <;> assumption
theorem wf_i8 {y : Int} (h : (Lit.int .i8 y).wf = true) : -128 ≤ y ∧ y ≤ 127 := by simpa [Lit.wf, IntKind.min, IntKind.max, IntKind.signed, IntKind.bits] using h
theorem wf_i16 {y : Int} (h : (Lit.int .i16 y).wf = true) : -32768 ≤ y ∧ y ≤ 32767 := by simpa [Lit.wf, IntKind.min, IntKind.max, IntKind.signed, IntKind.bits] using h
theorem wf_u8 {y : Int} (h : (Lit.int .u8 y).wf = true) : 0 ≤ y ∧ y ≤ 255 := by simpa [Lit.wf, IntKind.min, IntKind.max, IntKind.signed, IntKind.bits] using h
end Go.Proofs.YthdoeefaibeodaaDoor.Open
