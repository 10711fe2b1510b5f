/- Contracts and plain laws of functions of the given program; no conditions beside those in the theorems. -/
import Derived.WalkKit
import Derived.Laws.CopyRow
import Derived.Deep.MidRow
import Derived.Test.YticjkfacdmmopaaDoorProg
import Derived.Test.YticjkfacdmmopaaDoorWWords
import Derived.Test.YticjkfacdmmopaaDoorWLast
import Derived.Test.YticjkfacdmmopaaDoorWMore
namespace Go.Proofs.YticjkfacdmmopaaDoor.Ext
open Go.RowKit Go.Proofs.YticjkfacdmmopaaDoorW.PrintWords Go.Proofs.YticjkfacdmmopaaDoorW.PrintLast Go.Proofs.YticjkfacdmmopaaDoorW.PrintMore
theorem arrx_ (k : IntKind) (pre : List Value) (L : List Int) (post : List Value) (o : Nat) (ho : pre.length = o) (j : Int) (h0 : 0 ≤ j) (h1 : j < (L.length : Int)) :
    (pre ++ (L.map (Value.int k) ++ post)).toArray[o + j.toNat]? = some (.int k (rd L j)) := by
  obtain ⟨n, rfl⟩ := Int.eq_ofNat_of_zero_le h0
  have hn : n < L.length := by omega
  subst ho
  simp only [List.getElem?_toArray, Int.toNat_natCast, rd]
  rw [List.getElem?_append_right (by omega), Nat.add_sub_cancel_left, List.getElem?_append_left (by simpa using hn)]
  simp [List.getD_eq_getElem?_getD, List.getElem?_eq_getElem hn]
theorem arrx0_ (k : IntKind) (L : List Int) (post : List Value) (j : Int) (h0 : 0 ≤ j) (h1 : j < (L.length : Int)) :
    (L.map (Value.int k) ++ post).toArray[j.toNat]? = some (.int k (rd L j)) := by
  have h := arrx_ k [] L post 0 rfl j h0 h1
  rwa [Nat.zero_add, List.nil_append] at h
theorem range_partx_ {w : World} {g : Nat} {t : TypeId} {fr : Nat × Nat} (pre vs post : List Value) (o : Nat) (ho : pre.length = o) (h : w.heap[g]? = some (.cells (pre ++ (vs ++ post)).toArray t fr)) : w.rangeAt g o vs := by
  intro j v hv
  have hj : j < vs.length := (List.getElem?_eq_some_iff.1 hv).1
  subst ho
  rw [cell_of_row w g (pre.length + j) _ t fr h, List.getElem?_toArray, List.getElem?_append_right (by omega), Nat.add_sub_cancel_left, List.getElem?_append_left hj, hv]
theorem exec_load_partx_ {P : Program} {a : Act} {oi : Oper} {w : World} {t : TypeId} {fr : Nat × Nat} {d : TypeDesc} (ty : TypeId) (x : Operand) (g o : Nat) (pre vs post : List Value) (hpre : pre.length = o) (hg : w.heap[g]? = some (.cells (pre ++ (vs ++ post)).toArray t fr))
    (ho : oi.op = .load ty x) (hx : a.eval x = .pointer (some ⟨g, o, none⟩)) (hu : P.underlying ty = some d) (hd : d.isRow = true) (hi : (P.info? ty).map (·.size) = some vs.length) :
    (execOp a.eval oi).run P w = .ok (.value (.agg vs.toArray)) w := by
  have h := run_loadVar_mid w g o ty vs d (range_partx_ pre vs post o hpre hg) hu hd hi
  unfold execOp
  simp only [ho, hx, Instr.loadAt, Instr.sureAddr, Sem.run_bind, Sem.run_pure, Result.andThen_ok, h]
theorem ev_store_partx_ {P : Program} {ops : Array Oper} {rest : List Oper} {o : Oper} {a : Act} {Q : Exit → Act → World → Prop} {W : World} (hgd : o.guard = none) (ty : TypeId) (x y : Operand) (ho : o.op = .store ty x y) (hN : o.dst = none)
    (g off : Nat) (pre mid vs post : List Value) (hx : a.eval x = .pointer (some ⟨g, off, none⟩)) (hy : a.eval y = .agg vs.toArray) (t : TypeId) (hpre : pre.length = off) (hmid : mid.length = vs.length) (hg : W.heap[g]? = some (.cells (pre ++ (mid ++ post)).toArray t (0, 0)))
    (hi : (P.info? ty).map (·.size) = some vs.length) (h1 : vs.all (·.oneCell') = true)
    (h : ∀ w1, w1.heap[g]? = some (.cells (pre ++ (vs ++ post)).toArray t (0, 0)) → Kept W w1 (fun k => k = g) → (∀ B, B ≤ g → Below B W w1) → wpList P ops Q rest a w1) : wpList P ops Q (o :: rest) a W := by
  have hst := run_storeCells_at (P := P) g off t vs 0 (pre ++ (mid ++ post)).toArray W hg (by simp; omega) (fun v hv => List.all_eq_true.1 h1 v hv)
  have hrun : (storeVar ty ⟨g, off, none⟩ (.agg vs.toArray)).run P W = .ok () (W.setRow g (pre ++ (vs ++ post)).toArray) := by
    cases hq : P.info? ty with
    | none => simp [hq] at hi
    | some i =>
      have hs : vs.length = i.size := by simp [hq] at hi; omega
      have e : (((pre ++ (mid ++ post)).take (off + 0) ++ vs ++ (pre ++ (mid ++ post)).drop (off + 0 + vs.length))) = pre ++ (vs ++ post) := by
        subst hpre
        rw [Nat.add_zero, List.take_left', List.drop_append, List.append_assoc]
        · congr 2
          rw [List.drop_of_length_le (by omega), List.nil_append, Nat.add_sub_cancel_left, ← hmid, List.drop_left']
          rfl
        · rfl
      simp only [e] at hst
      simp [storeVar, sizeOf, typeInfo, hq, Value.cells, hs]
      simpa using hst
  refine wpList_plain hgd fun K hK => ?_
  unfold Oper.wp execOp
  simp only [ho, hx, hy, Instr.storeAt, Instr.sureAddr, Sem.run_bind, Sem.run_pure, Result.andThen_ok, hrun]
  refine hK _ _ ?_
  have e : a.put o.dst undef = a := by rw [hN]; rfl
  rw [e]
  refine h _ (setRow_heap W g _ _ t (0, 0) hg) ⟨by simp, fun i hi hn => setRow_other W g i _ hn⟩ (fun B hB => ⟨rfl, rfl, rfl, by simp, fun k hk => setRow_other W g k _ (by omega)⟩)
theorem u8_w_ (n : Int) : IntKind.u8.wrap n = n % 256 := by simp [IntKind.wrap, IntKind.signed, IntKind.bits]
end Go.Proofs.YticjkfacdmmopaaDoor.Ext
