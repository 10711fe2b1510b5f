/- Boxes that a closure has been handed: the least and the best are written, the others are read. -/
import Derived.Test.YtgfjmamjfkcmbaaExtClo
import Derived.Test.YtgfjmamjfkcmbaaWKept
import Derived.Laws.EntriesVeiled
namespace Go.Proofs.Ytgfjmamjfkcmbaa.Ext
open Go.RowKit Go.Proofs.YtgfjmamjfkcmbaaW.PrintWords Go.Proofs.YtgfjmamjfkcmbaaW.PrintLast Go.Proofs.YtgfjmamjfkcmbaaW.PrintMore
set_option linter.unusedVariables false
set_option linter.unusedSimpArgs false

theorem fold_succ {α : Type} (f : α → Nat → α) (s : α) (n : Nat) : (List.range (n + 1)).foldl f s = f ((List.range n).foldl f s) n := by rw [List.range_succ, List.foldl_append]; rfl
/-! ### The boxes -/
theorem cell_of {w : World} {g : Nat} {v : Value} {t : TypeId} (h : w.heap[g]? = some (.cells #[v] t (0, 0))) : w.cell? ⟨g, 0, none⟩ = some v := (blk_cell h 0).trans rfl
theorem blk_newAt {W : World} {n : Nat} (h : W.heap.size = n) (o : Obj) : (W.alloc o).heap[n]? = some o := by subst h; exact blk_new W o
theorem blk_lt' {w : World} {g : Nat} {o : Obj} (h : w.heap[g]? = some o) : g < w.heap.size := (Array.getElem?_eq_some_iff.1 h).1
/-- What is no box that is written. -/
def okF (gl gb : Nat) : Nat → Prop := fun k => k ≠ gl ∧ k ≠ gb
def wrF (gl gb : Nat) : Nat → Prop := fun k => k = gl ∨ k = gb
/-- Five boxes: two that are read, the least, the best, and the function's own. -/
structure InvB (w0 : World) (B gt gd gl gb gc : Nat) (vt vd vf : Value) (td tf : TypeId) (σ : List Int × Int) (w : World) : Prop where
  ht : w.heap[gt]? = some (.cells #[vt] 48 (0, 0))
  hd : w.heap[gd]? = some (.cells #[vd] td (0, 0))
  hl : w.heap[gl]? = some (.cells #[.int .i64 σ.2] 2 (0, 0))
  hb : ∃ vb, w.heap[gb]? = some (.cells #[vb] 48 (0, 0)) ∧ Kd.R (Kd.int .i64) 2 w B (okF gl gb) vb σ.1
  hc : w.heap[gc]? = some (.cells #[vf] tf (0, 0))
  bel : Below B w0 w
section
variable {w0 w w1 w2 : World} {B gt gd gl gb gc : Nat} {vt vd vf : Value} {td tf : TypeId} {σ : List Int × Int}
theorem InvB.fresh (h : InvB w0 B gt gd gl gb gc vt vd vf td tf σ w) : ∀ k, w.heap.size ≤ k → okF gl gb k := by
  intro k hk
  obtain ⟨vb, h1, _⟩ := h.hb
  have a := blk_lt' h.hl
  have b := blk_lt' h1
  exact ⟨by omega, by omega⟩
theorem InvB.below (h : InvB w0 B gt gd gl gb gc vt vd vf td tf σ w) (hb : Below w.heap.size w w1) (hB : B ≤ w.heap.size) : InvB w0 B gt gd gl gb gc vt vd vf td tf σ w1 := by
  have mv : ∀ k, k < w.heap.size → w1.heap[k]? = w.heap[k]? := fun k h1 => hb.block k h1
  obtain ⟨vb, h1, h2⟩ := h.hb
  exact ⟨(mv _ (blk_lt' h.ht)).trans h.ht, (mv _ (blk_lt' h.hd)).trans h.hd, (mv _ (blk_lt' h.hl)).trans h.hl, ⟨vb, (mv _ (blk_lt' h1)).trans h1, Kd.R_below h2 hb⟩, (mv _ (blk_lt' h.hc)).trans h.hc, h.bel.trans (hb.mono hB)⟩
/-- The boxes lie apart, behind what was there. -/
structure DistB (B gt gd gl gb gc : Nat) : Prop where
  a : gt ≠ gl
  b : gt ≠ gb
  c : gd ≠ gl
  d : gd ≠ gb
  e : gc ≠ gl
  f : gc ≠ gb
  g : gl ≠ gb
  l : B ≤ gl
  m : B ≤ gb
theorem InvB.store (h : InvB w0 B gt gd gl gb gc vt vd vf td tf σ w) (D : DistB B gt gd gl gb gc) {v : Value} {o : List Int} (N : Int) (hv : Kd.R (Kd.int .i64) 2 w B (okF gl gb) v o) :
    InvB w0 B gt gd gl gb gc vt vd vf td tf (o, N) ((w.setCell ⟨gb, 0, none⟩ v).setCell ⟨gl, 0, none⟩ (.int .i64 N)) := by
  have mv : ∀ k, k ≠ gl → k ≠ gb → ((w.setCell ⟨gb, 0, none⟩ v).setCell ⟨gl, 0, none⟩ (.int .i64 N)).heap[k]? = w.heap[k]? := fun k h1 h2 => (Below.heap_setCell _ _ _ _ h1).trans (Below.heap_setCell _ _ _ _ h2)
  obtain ⟨vb, h1, h2⟩ := h.hb
  refine ⟨(mv _ D.a D.b).trans h.ht, (mv _ D.c D.d).trans h.hd, ?_, ⟨v, ?_, Kd.R_step hv (fun k ho _ => mv k ho.1 ho.2)⟩, (mv _ D.e D.f).trans h.hc, (h.bel.setCell D.m _).setCell D.l _⟩
  · exact blk_set ((Below.heap_setCell _ _ _ _ D.g).trans h.hl) 0 _
  · exact (Below.heap_setCell _ _ _ _ (Ne.symm D.g)).trans (blk_set h1 0 _)
theorem kept_store (v u : Value) : Kept w ((w.setCell ⟨gb, 0, none⟩ v).setCell ⟨gl, 0, none⟩ u) (wrF gl gb) :=
  ⟨by simp [World.setCell], fun k _ hn => (Below.heap_setCell _ _ _ _ (fun e => hn (Or.inl e))).trans (Below.heap_setCell _ _ _ _ (fun e => hn (Or.inr e)))⟩
theorem R_kept {v : Value} {l : List Int} (h : Kd.R (Kd.int .i64) 2 w B (okF gl gb) v l) (hk : Kept w w1 (wrF gl gb)) : Kd.R (Kd.int .i64) 2 w1 B (okF gl gb) v l :=
  Kd.R_step h (fun k ho hl => hk.2 k hl (fun e => e.elim ho.1 ho.2))
/-- A row made since w is one of B's, and no box. -/
theorem R_fresh {v : Value} {l : List Int} (h : Kd.R (Kd.int .i64) 2 w1 w.heap.size (fun _ => True) v l) (hB : B ≤ w.heap.size) (hf : ∀ k, w.heap.size ≤ k → okF gl gb k) : Kd.R (Kd.int .i64) 2 w1 B (okF gl gb) v l :=
  Kd.R_lower (Kd.R_mono (Kd.R_bound h) (fun k hk => hf k hk.2.1)) hB
theorem kept_trans (h : Kept w w1 (wrF gl gb)) (k : Kept w1 w2 (wrF gl gb)) : Kept w w2 (wrF gl gb) := h.then_ k (fun _ h => Or.inl h)
theorem kept_below (hb : Below w.heap.size w w1) : Kept w w1 (wrF gl gb) := Kept.of_below hb _
theorem cellB {v : Value} {t : TypeId} {g : Nat} (h : w.heap[g]? = some (.cells #[v] t (0, 0))) (hb : Below w.heap.size w w1) : w1.cell? ⟨g, 0, none⟩ = some v := cell_of ((hb.block g (blk_lt' h)).trans h)
end
theorem reads_new1 (W : World) (t : TypeId) (n : Nat) (hn : W.heap.size = n) (a : Int) : Kd.C (Kd.int .i64) (W.alloc (.cells #[.int .i64 a] t (0, 0))) (some ⟨n, 0, none⟩) 1 [a] := by
  subst hn
  refine Kd.C_of_reads (enc := Value.int .i64) (d := (0 : Int)) (h1 := fun _ => rfl) ⟨rfl, by simp, fun hp => ⟨_, rfl, fun j hj => ?_⟩⟩
  obtain rfl : j = 0 := by simpa using hj
  rw [add_plain]
  exact (blk_cell (blk_new W _) 0).trans rfl
end Go.Proofs.Ytgfjmamjfkcmbaa.Ext
