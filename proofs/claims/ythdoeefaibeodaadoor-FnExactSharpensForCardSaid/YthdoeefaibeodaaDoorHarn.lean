/- What the laws do with lists of numbers: comparisons, marks, at values that are known. -/
import Derived.Test.YthdoeefaibeodaaDoorStrokesOf
import Derived.Test.YthdoeefaibeodaaDoorQ5
import Derived.Test.YthdoeefaibeodaaDoorQ6
import Derived.Test.YthdoeefaibeodaaDoorQ6
namespace Go.Proofs.YthdoeefaibeodaaDoor.Ext
open Go.RowKit Go.Proofs.YthdoeefaibeodaaDoor.Q Go.Proofs.YthdoeefaibeodaaDoor.Txt Go.Proofs.YthdoeefaibeodaaDoorW.PrintWords Go.Proofs.YthdoeefaibeodaaDoorW.PrintLast Go.Proofs.YthdoeefaibeodaaDoorW.PrintMore
set_option linter.unusedVariables false
set_option linter.unusedSimpArgs false
theorem R_flatI {e base : Nat} {w : World} {ok ok' : Nat → Prop} {v : Value} {xs : List Int} (h : Kd.R (Kd.int .i64) e w base ok v xs) (hk : ∀ k, v.ownBlock = some k → ok' k) : Kd.R (Kd.int .i64) e w base ok' v xs := ⟨hk, h.2⟩
theorem R_kept {e base : Nat} {w w' : World} {ok P : Nat → Prop} {v : Value} {xs : List Int} (h : Kd.R (Kd.int .i64) e w base ok v xs) (hk : Kept w w' P) (hn : ∀ k, v.ownBlock = some k → ¬ P k) : Kd.R (Kd.int .i64) e w' base (fun _ => True) v xs :=
  Kd.R_mono (Kd.R_step (R_flatI h (ok' := fun k => v.ownBlock = some k) (fun _ h => h)) (fun k hk1 hk2 => hk.2 k hk2 (hn k hk1))) (fun _ _ => trivial)
theorem R_apart {e e' base : Nat} {w w1 : World} {ok ok' : Nat → Prop} {v u : Value} {xs ys : List Int} (h : Kd.R (Kd.int .i64) e w base ok v xs) (h' : Kd.R (Kd.int .i64) e' w1 w.heap.size ok' u ys) : ∀ k, u.ownBlock = some k → v.ownBlock ≠ some k := by
  intro k hk hv
  obtain ⟨i1, o1⟩ := Kd.R_own h
  obtain ⟨i2, o2⟩ := Kd.R_own h'
  have h1 := own_lt o1 k hv
  have h2 := own_base o2 k hk
  omega
theorem blk_kept {w w' : World} {P : Nat → Prop} {g : Nat} {o : Obj} (h : w.heap[g]? = some o) (hk : Kept w w' P) (hn : ¬ P g) : w'.heap[g]? = some o := (hk.2 g (below_lt h) hn).trans h
theorem R_sliceI {e base n c : Nat} {A : Option Addr} {w : World} {ok : Nat → Prop} {xs : List Int} (h : Kd.R (Kd.int .i64) e w base ok (.slice A n c) xs) : n = xs.length ∧ n ≤ c ∧ Kd.C (Kd.int .i64) w A xs.length xs := by
  obtain ⟨A', c', he, hc, hC⟩ := Kd.R_reads h
  injection he with h1 h2 h3
  subst h1 h2 h3
  exact ⟨rfl, hc, hC⟩
theorem eq_calls (A A' : Option Addr) (n c c' : Nat) (l : List Int) (hn : l.length = n) (w : World) (hr : Kd.C (Kd.int .i64) w A l.length l) (hc : n ≤ c) (hr' : Kd.C (Kd.int .i64) w A' l.length l) (hc' : n ≤ c') (hl : n ≤ 1000) :
    Calls Tryd.prog 31 #[.slice A n c, .slice A' n c'] w fun e w' => e = .returned (.bool true) ∧ Below w.heap.size w w' := by
  subst hn
  exact (laws_eqInt64S.calls (l.length + 1) A c l A' c' l true w hr hc hr' hc' (Pure.eqInt64S_self (by omega) (by omega))).mono fun e w' h => ⟨h.1, by have := h.2; first | exact this | exact this.below⟩
theorem held_calls (A : Option Addr) (n c : Nat) (w : World) (hr : Kd.C (Kd.int .i64) w A (Pure.marks 1 n).length (Pure.marks 1 n)) (hc : n ≤ c) (hl : n ≤ 1000) :
    Calls Tryd.prog 33 #[.slice A n c, .int .i64 1] w fun e w' => e = .returned (.int .i64 (1 + n)) ∧ Below w.heap.size w w' := by
  have h := laws_heldInt64S.calls (n + 1) A c (Pure.marks 1 n) 1 (1 + n) w hr (by rw [Pure.marks_len]; exact hc) (Pure.heldInt64S_eq (by omega) (by omega) (by omega) (by omega))
  rw [Pure.marks_len] at h
  exact h.mono fun e w' h => ⟨h.1, by have := h.2; first | exact this | exact this.below⟩
theorem mark_calls (v : Value) (l : List Int) (hl : l.length ≤ 1000) (w0 w : World) (ok : Nat → Prop) (hB : Below w0.heap.size w0 w) (ho : Kd.R (Kd.int .i64) 2 w w0.heap.size ok v l) :
    Calls Tryd.prog 32 #[v, .int .i64 1] w fun e w' => e = .returned (.int .i64 (1 + l.length)) ∧ Kd.R (Kd.int .i64) 2 w' w0.heap.size (fun _ => True) v (Pure.marks 1 l.length) ∧ Below w0.heap.size w0 w' ∧ Kept w w' (fun k => v.ownBlock = some k) :=
  (laws_markInt64S.calls (l.length + 1) (fun k => v.ownBlock = some k) v l 1 _ _ w0 w hB (R_flatI ho (fun _ h => h)) (Pure.markInt64S_eq (by omega) (by omega) (by omega) (by omega))).mono fun e w' h => ⟨h.1, R_flatI h.2.1 (fun _ _ => trivial), h.2.2.1, h.2.2.2⟩
end Go.Proofs.YthdoeefaibeodaaDoor.Ext
