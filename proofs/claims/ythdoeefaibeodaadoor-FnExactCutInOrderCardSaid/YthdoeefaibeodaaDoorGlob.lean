/- What the library reads of the world: a number, a table and two errors. -/
import Derived.Test.YthdoeefaibeodaaDoorExtA
import Derived.Lib.LaidTab
import Derived.Lib.ItoaMem
namespace Go.Proofs.YthdoeefaibeodaaDoor.Ext
open Go.RowKit Go.Proofs.YthdoeefaibeodaaDoorW.PrintWords Go.Proofs.YthdoeefaibeodaaDoorW.PrintLast Go.Proofs.YthdoeefaibeodaaDoorW.PrintMore
set_option linter.unusedVariables false
set_option linter.unusedSimpArgs false
/-- What functions that search in texts read beside their arguments. -/
structure GlobM (w : World) : Prop where
  m : ∃ m, w.cell? ⟨1, 0, none⟩ = some (.int .i64 m)
/-- What writing a number reads beside its arguments. -/
structure GlobT (w : World) : Prop where
  t : Lib.TabIs Tryd.prog w "internal/strconv.uint64pow10" .u64 Lib.pow10Tab
/-- What the library's functions read beside their arguments. -/
structure GlobOk (w : World) : Prop where
  toM : GlobM w
  toT : GlobT w
  e : ∃ v, w.cell? ⟨2, 0, none⟩ = some v ∧ (v = .nilIface ∨ ∃ te pe, v = .iface te pe)
  r : ∃ v, w.cell? ⟨3, 0, none⟩ = some v ∧ (v = .nilIface ∨ ∃ te pe, v = .iface te pe)
theorem var_below {w w1 : World} {name : String} {x : Array Value} (hb : Below w.heap.size w w1) (h : w.var? Tryd.prog name = some x) : w1.var? Tryd.prog name = some x := by
  unfold World.var? at h ⊢
  obtain ⟨g, hg, h⟩ := Option.bind_eq_some_iff.1 h
  rw [hg, Option.bind_some]
  have hlt : g < w.heap.size := by
    apply Classical.byContradiction
    intro hn
    rw [Array.getElem?_eq_none (by omega)] at h
    cases h
  rw [hb.block g hlt]
  exact h
theorem cell_below {w w1 : World} (hb : Below w.heap.size w w1) {g : Nat} {v : Value} (hc : w.cell? ⟨g, 0, none⟩ = some v) : w1.cell? ⟨g, 0, none⟩ = some v :=
  (hb.cell (World.block_lt_of_cell? w _ hc)).trans hc
theorem GlobM.below {w w1 : World} (h : GlobM w) (hb : Below w.heap.size w w1) : GlobM w1 := by
  obtain ⟨m, hm⟩ := h.m
  exact ⟨⟨m, cell_below hb hm⟩⟩
theorem GlobT.below {w w1 : World} (h : GlobT w) (hb : Below w.heap.size w w1) : GlobT w1 := ⟨var_below hb h.t⟩
theorem GlobOk.below {w w1 : World} (h : GlobOk w) (hb : Below w.heap.size w w1) : GlobOk w1 := by
  obtain ⟨v, he, ve⟩ := h.e
  obtain ⟨u, hr, ue⟩ := h.r
  exact ⟨h.toM.below hb, h.toT.below hb, ⟨v, cell_below hb he, ve⟩, ⟨u, cell_below hb hr, ue⟩⟩
end Go.Proofs.YthdoeefaibeodaaDoor.Ext
