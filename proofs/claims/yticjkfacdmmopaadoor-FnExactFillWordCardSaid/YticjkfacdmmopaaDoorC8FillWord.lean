/- Contracts and plain laws of functions of the given program; no conditions beside those in the theorems. -/
import Derived.Test.YticjkfacdmmopaaDoorC0FillWord
import Derived.Test.YticjkfacdmmopaaDoorC3FillWord
import Derived.Deep.Slices
namespace Go.Proofs.YticjkfacdmmopaaDoor.Open
open Go.ChangeShapes Go.WideShapes Go.ChangeAt Go.RowKit Go.Deep Go.Proofs.YticjkfacdmmopaaDoor.Ext Go.Proofs.YticjkfacdmmopaaDoor.Face Go.Proofs.YticjkfacdmmopaaDoorW.PrintWords
set_option linter.unusedVariables false
set_option linter.unusedSimpArgs false
variable {H : Type} {enc : TypeId × Value → H} {P : Program} {w : World} {spare : Nat → Bool} {held : Bool} {t : TypeId}
instance : Inhabited LP := ⟨⟨0, 0, 0⟩⟩
theorem open_pairs {t e : TypeId} {f0 f1 f2 : Field} {fuel : Nat} {cs : List Value} {x : DataW H × List MemPlace} (ht : P.underlying t = some (.slice e)) (he : P.underlying e = some (.struct #[f0, f1, f2])) (ce : P.cellsOf e = 3) (o0 : f0.offset = 0) (o1 : f1.offset = 1) (o2 : f2.offset = 2) (c0 : P.cellsOf f0.type = 1) (c1 : P.cellsOf f1.type = 1) (c2 : P.cellsOf f2.type = 1)
  (u0 : P.underlying f0.type = some (.int .u8)) (u1 : P.underlying f1.type = some (.int .u8)) (u2 : P.underlying f2.type = some (.int .i8))
  (h : DataW.trod enc P w 0 spare held fuel t cs = some x) :
  ∃ (A : Option Addr) (c : Nat) (ps : List LP), cs = [.slice A ps.length c] ∧ ps.length ≤ c ∧ c ≤ maxLen ∧ Kd.C kLP w A ps.length ps ∧ ∀ p ∈ ps, (0 ≤ p.f0 ∧ p.f0 ≤ 255) ∧ (0 ≤ p.f1 ∧ p.f1 ≤ 255) ∧ (-128 ≤ p.f2 ∧ p.f2 ≤ 127) := by
 rcases open_slice ht h with ⟨rfl, _⟩ | ⟨a, len, cap, m, n, D, Pl, rfl, hb, hl, hm, hmm, rfl, hx⟩
 ·exact ⟨none, 0, [], rfl, Nat.le_refl _, Nat.zero_le _, ⟨rfl, by simp, fun hp => absurd hp (by simp)⟩, by simp⟩
 have hlm : len ≤ m := by rw [hmm]; split <;> omega
 have each : ∀ i, i < len → ∃ q : LP, (w.cell? (a.add (i * 3)) = some (.int .u8 q.f0) ∧ w.cell? (a.add (i * 3 + 1)) = some (.int .u8 q.f1) ∧ w.cell? (a.add (i * 3 + 2)) = some (.int .i8 q.f2)) ∧ (0 ≤ q.f0 ∧ q.f0 ≤ 255) ∧ (0 ≤ q.f1 ∧ q.f1 ≤ 255) ∧ (-128 ≤ q.f2 ∧ q.f2 ≤ 127) := by
  intro i hi
  obtain ⟨cs', h1, h2⟩ := hx i (by omega)
  rw [ce] at h1
  obtain ⟨_, hlen, hcell⟩ := World.cells?_some h1
  obtain ⟨xs, k, hk, hxy, _, hxl, hf⟩ := DataW.trod_struct he h2
  match xs, hxl, cs', hlen with
  | [y0, y1, y2], _, [v0, v1, v2], _ =>
   have g0 := hf 0 f0 rfl
   have g1 := hf 1 f1 rfl
   have g2 := hf 2 f2 rfl
   simp [o0, o1, o2, c0, c1, c2] at g0 g1 g2
   obtain ⟨z0, q0, _, w0⟩ := DataW.trod_int u0 g0
   obtain ⟨z1, q1, _, w1⟩ := DataW.trod_int u1 g1
   obtain ⟨z2, q2, _, w2⟩ := DataW.trod_int u2 g2
   obtain rfl : v0 = .int .u8 z0 := by simpa using q0
   obtain rfl : v1 = .int .u8 z1 := by simpa using q1
   obtain rfl : v2 = .int .i8 z2 := by simpa using q2
   have e0 := hcell 0 (by omega)
   have e1 := hcell 1 (by omega)
   have e2 := hcell 2 (by omega)
   rw [Deep.add_add] at e0 e1 e2
   exact ⟨⟨z0, z1, z2⟩, ⟨by simpa using e0, by simpa using e1, by simpa using e2⟩, wf_u8 w0, wf_u8 w1, wf_i8 w2⟩
 obtain ⟨q, hq⟩ := choose_lt each
 refine ⟨some a, cap, (List.range len).map q, by simp, by simpa using hl, hm, ⟨by simp, by simp; unfold maxLen at hm; omega, fun hp => ⟨a, rfl, fun j p hj => ?_⟩⟩, ?_⟩
 ·obtain ⟨hlt, rfl⟩ := List.getElem?_eq_some_iff.1 hj
  have hjl : j < len := by simpa using hlt
  obtain ⟨⟨h0, h1, h2⟩, _⟩ := hq j hjl
  refine ⟨[.int .u8 (q j).f0, .int .u8 (q j).f1, .int .i8 (q j).f2], rfl, by simpa using kLP_mk w (q j), fun i u hi => ?_⟩
  match i, hi with
  | 0, hi => simp at hi; subst hi; exact h0
  | 1, hi => simp at hi; subst hi; exact h1
  | 2, hi => simp at hi; subst hi; exact h2
 ·intro p hp
  rw [List.mem_map] at hp
  obtain ⟨j, hj, rfl⟩ := hp
  exact (hq j (by simpa using hj)).2
theorem open_face {r : Reach} {b0 : Nat} {f0 f1 f2 f3 : Field} {g0 g1 g2 : Field} {e ep : TypeId} {v : Value} {d : DataW H} {p : List MemPlace} (ht : P.underlying t = some (.struct #[f0, f1, f2, f3])) (h0 : P.underlying f0.type = some (.array 26 e)) (he : P.underlying e = some (.int .i8))
  (hc : P.cellsOf e = 1) (hn : P.cellsOf f0.type = 26) (h1 : P.underlying f1.type = some (.int .i8)) (h2 : P.underlying f2.type = some (.int .i8)) (h3 : P.underlying f3.type = some (.slice ep)) (o0 : f0.offset = 0) (o1 : f1.offset = 26) (o2 : f2.offset = 27) (o3 : f3.offset = 28)
  (c1 : P.cellsOf f1.type = 1) (c2 : P.cellsOf f2.type = 1) (c3 : P.cellsOf f3.type = 1) (hC : P.cellsOf t = 29)
  (hep : P.underlying ep = some (.struct #[g0, g1, g2])) (ce : P.cellsOf ep = 3) (p0 : g0.offset = 0) (p1 : g1.offset = 1) (p2 : g2.offset = 2) (d0 : P.cellsOf g0.type = 1) (d1 : P.cellsOf g1.type = 1) (d2 : P.cellsOf g2.type = 1)
  (u0 : P.underlying g0.type = some (.int .u8)) (u1 : P.underlying g1.type = some (.int .u8)) (u2 : P.underlying g2.type = some (.int .i8))
  (hv : Value.okWide P w r b0 t v) (h : DataW.Trod enc P w 0 spare held t v d p) :
  ∃ (l : List Int) (A : Option Addr) (c : Nat) (ps : List LP), v = .agg (faceV l A ps.length c) ∧ l.length = 28 ∧ (∀ y ∈ l, -128 ≤ y ∧ y ≤ 127) ∧ ps.length ≤ c ∧ c ≤ maxLen ∧ Kd.C kLP w A ps.length ps ∧ ∀ p ∈ ps, (0 ≤ p.f0 ∧ p.f0 ≤ 255) ∧ (0 ≤ p.f1 ∧ p.f1 ≤ 255) ∧ (-128 ≤ p.f2 ∧ p.f2 ≤ 127) := by
 obtain ⟨cs, rfl, _⟩ := okWide_struct ht hv
 obtain ⟨fuel, hf⟩ := h
 obtain ⟨xs, m, _, _, hl, hxs, hi⟩ := DataW.trod_struct ht hf
 have hlen : xs.length = 4 := by simpa using hxs
 rw [hC] at hl
 have get : ∀ i, i < 4 → ∃ z, xs[i]? = some z := fun i hi' => ⟨xs[i]'(by omega), List.getElem?_eq_getElem (by omega)⟩
 have e0 := hi 0 f0 rfl
 have e1 := hi 1 f1 rfl
 have e2 := hi 2 f2 rfl
 have e3 := hi 3 f3 rfl
 obtain ⟨z0, hz0⟩ := get 0 (by omega)
 obtain ⟨z1, hz1⟩ := get 1 (by omega)
 obtain ⟨z2, hz2⟩ := get 2 (by omega)
 obtain ⟨z3, hz3⟩ := get 3 (by omega)
 rw [hz0, o0, hn, List.drop_zero] at e0
 rw [hz1, o1, c1] at e1
 rw [hz2, o2, c2] at e2
 rw [hz3, o3, c3] at e3
 obtain ⟨l, q1, q2, q3⟩ := arr_list h0 he hc hn e0
 obtain ⟨a, a1, _, a3⟩ := DataW.trod_int h1 e1
 obtain ⟨b, b1, _, b3⟩ := DataW.trod_int h2 e2
 obtain ⟨A, c, ps, s1, s2, s3, s4, s5⟩ := open_pairs h3 hep ce p0 p1 p2 d0 d1 d2 u0 u1 u2 e3
 refine ⟨l ++ [a, b], A, c, ps, ?_, by simp [q2], ?_, s2, s3, s4, s5⟩
 ·have e : nums .i8 (l ++ [a, b]) ++ [.slice A ps.length c] = (Value.agg cs).cells.toList := by
   rw [nums_append, ← q1]
   have : nums .i8 [a, b] = [.int .i8 a] ++ [.int .i8 b] := rfl
   rw [this, ← a1, ← b1, ← s1]
   generalize (Value.agg cs).cells.toList = L at *
   apply List.ext_getElem?
   intro i
   simp only [List.getElem?_append, List.length_append, List.length_take, List.length_drop, List.getElem?_take, List.getElem?_drop]
   by_cases h1 : i < 26
   ·rw [if_pos (by omega), if_pos (by omega), if_pos h1]
   ·by_cases h2 : i = 26
    ·subst h2
     rw [if_pos (by omega), if_neg (by omega), if_pos (by omega), if_pos (by omega)]
     congr 1; omega
    ·by_cases h3 : i = 27
     ·subst h3
      rw [if_pos (by omega), if_neg (by omega), if_neg (by omega), if_pos (by omega)]
      congr 1; omega
     ·rw [if_neg (by omega)]
      by_cases h4 : i = 28
      ·subst h4
       rw [if_pos (by omega)]
       congr 1; omega
      ·rw [if_neg (by omega), List.getElem?_eq_none (by omega)]
  unfold faceV
  congr 1
  apply Array.toList_inj.1
  rw [Array.toList_push]
  show cs.toList = nums .i8 (l ++ [a, b]) ++ _
  rw [e]
  simp [Value.cells]
 ·intro y hy
  rw [List.mem_append] at hy
  rcases hy with hy | hy
  ·exact wf_i8 (q3 y hy)
  ·simp at hy
   rcases hy with rfl | rfl
   ·exact wf_i8 a3
   ·exact wf_i8 b3
end Go.Proofs.YticjkfacdmmopaaDoor.Open
