/- Contracts and plain laws of functions of the given program; no conditions beside those in the theorems. -/
import Derived.WalkKit
import Derived.BigQuiet
import Derived.Deep.QuietTactic
import Derived.Test.YticjkfacdmmopaaDoorProg
import Derived.Test.YticjkfacdmmopaaDoorWWords
import Derived.Test.YticjkfacdmmopaaDoorWLast
import Derived.Test.YticjkfacdmmopaaDoorWMore
import Derived.Shelf.Abstract
import Derived.Deep.MidRow
import Derived.ProofKit
import Derived.OpenShut
import Derived.Below
import Derived.SizedLaws
import Derived.ShutString
import Derived.Lib.LaidTab
import Derived.Lib.ItoaMem
namespace Go.Proofs.YticjkfacdmmopaaDoor.Ext
open Go.RowKit Go.Proofs.YticjkfacdmmopaaDoorW.PrintWords Go.Proofs.YticjkfacdmmopaaDoorW.PrintLast Go.Proofs.YticjkfacdmmopaaDoorW.PrintMore
set_option linter.unusedVariables false
set_option linter.unusedSimpArgs false
theorem hid {p : Prop} (h : p) : Hid p := h
def inB (a b c : Int) : Bool := decide (b ≤ a) && decide (a ≤ c)
theorem inB_iff {a b c : Int} : inB a b c = true ↔ b ≤ a ∧ a ≤ c := by simp [inB]
set_option maxHeartbeats 400000 in
theorem within_calls (a b c : Int) (w : World) :
    Calls Tryd.prog 85 #[.int .i64 a, .int .i64 b, .int .i64 c] w fun e w' => e = .returned (.bool (inB a b c)) ∧ w = w' := by
  unfold inB
  by_cases h : b ≤ a
  · have h1 : decide (b ≤ a) = true := by simpa using h
    go_enter Tryd.func85, Tryd.ntmps85
    go_wp2
    go_ret
    exact ⟨by simp [h], rfl⟩
  · have h1 : decide (b ≤ a) = false := by simpa using h
    go_enter Tryd.func85, Tryd.ntmps85
    go_wp2
    go_ret
    exact ⟨by simp [h], rfl⟩
def idxI (p : Int → Bool) : List Int → Int
  | [] => -1
  | x :: xs => if p x then 0 else if idxI p xs < 0 then -1 else idxI p xs + 1
theorem idxI_lo (p : Int → Bool) (l : List Int) : -1 ≤ idxI p l ∧ idxI p l < l.length := by
  induction l with
  | nil => simp [idxI]
  | cons x xs ih => simp only [idxI, List.length_cons]; split <;> (try split) <;> omega
theorem idxI_any_iff (p : Int → Bool) (l : List Int) : 0 ≤ idxI p l ↔ l.any p = true := by
  induction l with
  | nil => simp [idxI]
  | cons x xs ih =>
    have := idxI_lo p xs
    simp only [idxI, List.any_cons, Bool.or_eq_true, ← ih]
    by_cases hx : p x = true
    · simp [hx]
    · rw [if_neg hx]
      split
      · constructor
        · intro h; omega
        · rintro (h | h)
          · exact absurd h hx
          · omega
      · constructor
        · intro h; right; omega
        · intro h; omega
theorem idxI_any (p : Int → Bool) (l : List Int) : decide (0 ≤ idxI p l) = l.any p := by
  rw [Bool.eq_iff_iff, decide_eq_true_iff]
  exact idxI_any_iff p l
theorem idxI_miss (p : Int → Bool) : ∀ (l : List Int), (∀ j, j < l.length → p (l.getD j 0) = false) → idxI p l = -1
  | [], _ => rfl
  | x :: xs, h => by
    have h0 := h 0 (by simp)
    have ih := idxI_miss p xs (fun j hj => by have := h (j + 1) (by simp; omega); simpa using this)
    simp at h0
    simp [idxI, h0, ih]
theorem idxI_hit (p : Int → Bool) : ∀ (l : List Int) (k : Nat), k < l.length → p (l.getD k 0) = true → (∀ j, j < k → p (l.getD j 0) = false) → idxI p l = k
  | [], k, hk, _, _ => by simp at hk
  | x :: xs, 0, hk, h, _ => by simp at h; simp [idxI, h]
  | x :: xs, k + 1, hk, h, hm => by
    have h0 := hm 0 (by omega)
    simp at h0
    have ih := idxI_hit p xs k (by simp at hk; omega) (by simpa using h) (fun j hj => by have := hm (j + 1) (by omega); simpa using this)
    simp [idxI, h0, ih]
    omega
def cellsK (k : IntKind) (l : List Int) : Array Value := (nums k l).toArray
theorem cellsK_size (k : IntKind) (l : List Int) : (cellsK k l).size = l.length := by simp [cellsK, nums]
theorem cellsK_get (k : IntKind) (l : List Int) (n : Nat) (h : n < l.length) : (cellsK k l)[n]? = some (.int k (rd l n)) := by
  simp [cellsK, nums, rd, List.getD_eq_getElem?_getD, List.getElem?_eq_getElem h]
theorem cellsK_one (k : IntKind) (l : List Int) : (cellsK k l).all (·.oneCell') = true := by
  rw [Array.all_eq_true_iff_forall_mem]
  intro v hv
  simp only [cellsK, nums, List.mem_toArray, List.mem_map] at hv
  obtain ⟨x, _, rfl⟩ := hv
  rfl
theorem cellsK_set (k : IntKind) (l : List Int) (n : Nat) (x : Int) : (cellsK k l).setIfInBounds n (.int k x) = cellsK k (l.set n x) := by
  simp [cellsK, nums, List.map_set]
theorem cellsK_cell {w : World} {g : Nat} {t : TypeId} {k : IntKind} {l : List Int} (h : w.heap[g]? = some (.cells (cellsK k l) t (0, 0))) (n : Nat) (hn : n < l.length) : w.cell? ⟨g, n, none⟩ = some (.int k (rd l n)) :=
  (blk_cell h n).trans (cellsK_get k l n hn)
theorem blk_at {W : World} {n : Nat} (h : W.heap.size = n) (o : Obj) : (W.alloc o).heap[n]? = some o := by subst h; exact blk_new W o
theorem rd_mem' (l : List Int) (n : Nat) (h : n < l.length) : rd l n ∈ l := by
  have e : rd l n = l[n] := by simp [rd, List.getD_eq_getElem?_getD, List.getElem?_eq_getElem h]
  rw [e]; exact List.getElem_mem h
theorem all_snoc' (p : Int → Bool) (l : List Int) (n : Nat) (h : n < l.length) : (l.take (n + 1)).all p = ((l.take n).all p && p (rd l n)) := by
  have e : rd l n = l[n] := by simp [rd, List.getD_eq_getElem?_getD, List.getElem?_eq_getElem h]
  rw [List.take_succ_eq_append_getElem h, List.all_append, e]; simp
theorem all_take_false (p : Int → Bool) (l : List Int) (n : Nat) (h : n < l.length) (hp : p (rd l n) = false) : l.all p = false := by
  rw [Bool.eq_false_iff]
  intro ha
  have := List.all_eq_true.1 ha _ (rd_mem' l n h)
  rw [hp] at this; cases this
def copied (l : List Int) (n : Nat) : List Int := l.take n ++ List.replicate (l.length - n) 0
theorem copied_len (l : List Int) (n : Nat) (h : n ≤ l.length) : (copied l n).length = l.length := by simp [copied]; omega
theorem copied_succ (l : List Int) (n : Nat) (h : n < l.length) : (copied l n).set n (rd l n) = copied l (n + 1) := by
  have e : rd l n = l[n] := by simp [rd, List.getD_eq_getElem?_getD, List.getElem?_eq_getElem h]
  unfold copied
  rw [List.set_append_right _ _ (by simp <;> omega), List.take_succ_eq_append_getElem h, e, List.append_assoc]
  congr 1
  obtain ⟨m, hm⟩ : ∃ m, l.length - n = m + 1 := ⟨l.length - n - 1, by omega⟩
  rw [hm, show l.length - (n + 1) = m by omega, List.replicate_succ]
  simp [show n - min n l.length = 0 by omega]
theorem copied_full (l : List Int) : copied l l.length = l := by simp [copied]
theorem copied_zero (l : List Int) : copied l 0 = List.replicate l.length 0 := by simp [copied]
section
variable {P : Program} {ops : Array Oper} {rest : List Oper} {o : Oper} {a : Act} {Q : Exit → Act → World → Prop} {W : World}
theorem ev_store_row (hgd : o.guard = none) (ty : TypeId) (x y : Operand) (ho : o.op = .store ty x y) (hN : o.dst = none)
    (g : Nat) (cells : Array Value) (hx : a.eval x = .pointer (some ⟨g, 0, none⟩)) (hy : a.eval y = .agg cells)
    (t : TypeId) (old : Array Value) (hg : W.heap[g]? = some (.cells old t (0, 0))) (hi : (P.info? ty).map (·.size) = some cells.size)
    (hold : old.size = cells.size) (h1 : cells.all (·.oneCell') = true)
    (h : ∀ w1, w1.heap[g]? = some (.cells cells t (0, 0)) → Kept W w1 (fun k => k = g) → (∀ B, B ≤ g → Below B W w1) → wpList P ops Q rest a w1) : wpList P ops Q (o :: rest) a W := by
  refine wpList_store_row hgd ty x y ho g cells hx hy t old hg hi hold h1 ?_
  rw [hN]
  refine h _ (setRow_heap W g old cells t (0, 0) hg) ⟨by simp, fun i hi hn => setRow_other W g i cells hn⟩ (fun B hB => ⟨rfl, rfl, rfl, by simp, fun k hk => setRow_other W g k cells (by omega)⟩)
theorem ev_store_at (hgd : o.guard = none) (ty : TypeId) (x y : Operand) (ho : o.op = .store ty x y) (hN : o.dst = none)
    (g off : Nat) (k : IntKind) (L l : List Int) (hx : a.eval x = .pointer (some ⟨g, off, none⟩)) (hy : a.eval y = .agg (cellsK k l))
    (t : TypeId) (hg : W.heap[g]? = some (.cells (cellsK k L) t (0, 0))) (hi : (P.info? ty).map (·.size) = some l.length) (hfit : off + l.length ≤ L.length)
    (h : ∀ w1, w1.heap[g]? = some (.cells (cellsK k (L.take off ++ l ++ L.drop (off + l.length))) t (0, 0)) → Kept W w1 (fun k => k = g) → (∀ B, B ≤ g → Below B W w1) → wpList P ops Q rest a w1) : wpList P ops Q (o :: rest) a W := by
  have hst := run_storeCells_at P g off t (cellsK k l).toList 0 (cellsK k L) W hg (by simpa [cellsK, nums] using hfit) (fun v hv => (Array.all_eq_true_iff_forall_mem.1 (cellsK_one k l)) v (by simpa using hv))
  have hrun : (storeVar ty ⟨g, off, none⟩ (.agg (cellsK k l))).run P W = .ok () (W.setRow g (cellsK k (L.take off ++ l ++ L.drop (off + l.length)))) := by
    cases hq : P.info? ty with
    | none => simp [hq] at hi
    | some i =>
      have hs : l.length = i.size := by simp [hq] at hi; omega
      have hs2 : (cellsK k l).size = i.size := by rw [cellsK_size, hs]
      have e : (((cellsK k L).toList.take (off + 0) ++ (cellsK k l).toList ++ (cellsK k L).toList.drop (off + 0 + (cellsK k l).toList.length)).toArray) = cellsK k (L.take off ++ l ++ L.drop (off + l.length)) := by
        simp [cellsK, nums, List.map_take, List.map_drop]
      rw [e] at hst
      simp [storeVar, sizeOf, typeInfo, hq, Value.cells, hs2, hst]
  refine wpList_plain hgd fun K hK => ?_
  unfold Oper.wp execOp
  simp only [ho, hx, hy, Instr.storeAt, Instr.sureAddr, Sem.run_bind, Sem.run_pure, Result.andThen_ok, hrun]
  refine hK _ _ ?_
  have e : a.put o.dst undef = a := by rw [hN]; rfl
  rw [e]
  refine h _ (setRow_heap W g (cellsK k L) _ t (0, 0) hg) ⟨by simp, fun i hi hn => setRow_other W g i _ hn⟩ (fun B hB => ⟨rfl, rfl, rfl, by simp, fun k hk => setRow_other W g k _ (by omega)⟩)
theorem ev_load_at (hgd : o.guard = none) (ty : TypeId) (x : Operand) (ho : o.op = .load ty x)
    (g off n : Nat) (k : IntKind) (L : List Int) (hx : a.eval x = .pointer (some ⟨g, off, none⟩)) (t : TypeId) (d : TypeDesc) (hg : W.heap[g]? = some (.cells (cellsK k L) t (0, 0)))
    (hu : P.underlying ty = some d) (hd : d.isRow = true) (hfit : off + n ≤ L.length) (hi : (P.info? ty).map (·.size) = some n)
    (h : wpList P ops Q rest (a.put o.dst (.agg (cellsK k ((L.drop off).take n)))) W) : wpList P ops Q (o :: rest) a W := by
  refine wpList_load_mid hgd ty x ho g off hx (nums k ((L.drop off).take n)) d ?_ hu hd (by rw [hi]; simp [nums]; omega) h
  intro j v hj
  have hj' : j < n := by
    have := (List.getElem?_eq_some_iff.1 hj).1
    simp [nums] at this; omega
  have h1 := cellsK_cell hg (off + j) (by omega)
  have h2 : (nums k ((L.drop off).take n))[j]? = some (.int k (rd L ((off + j : Nat) : Int))) := by
    have h3 : off + j < L.length := by omega
    have h4 : rd L ((off + j : Nat) : Int) = L[off + j] := by simp only [rd, Int.toNat_natCast, List.getD_eq_getElem?_getD, List.getElem?_eq_getElem h3, Option.getD_some]
    rw [h4]
    simp only [nums, List.getElem?_map, List.getElem?_take, hj', List.getElem?_drop, List.getElem?_eq_getElem h3, if_true, Option.map_some]
  rw [h2] at hj
  rw [← hj]
  exact h1
end
theorem info_laws_toInt16A26 : (Tryd.prog.info? 58).map (·.size) = some 26 := by kernel_rfl
set_option maxHeartbeats 1000000 in
theorem laws_toInt16A26_calls (l : List Int) (hl : l.length = 26) (w : World) :
    Calls Tryd.prog 98 #[.agg (cellsK .i16 l)] w fun e w' => e = .returned (.agg (cellsK .i16 l)) ∧ Below w.heap.size w w' := by
  have HZ : Aside0 (cellsK .i16 (copied l 0) = cellsK .i16 (List.replicate 26 0)) := ⟨by rw [copied_zero, hl]⟩
  have HZ2 : Aside0 (cellsK .i16 (List.replicate 26 0) = #[.int .i16 0, .int .i16 0, .int .i16 0, .int .i16 0, .int .i16 0, .int .i16 0, .int .i16 0, .int .i16 0, .int .i16 0, .int .i16 0, .int .i16 0, .int .i16 0, .int .i16 0, .int .i16 0, .int .i16 0, .int .i16 0, .int .i16 0, .int .i16 0, .int .i16 0, .int .i16 0, .int .i16 0, .int .i16 0, .int .i16 0, .int .i16 0, .int .i16 0, .int .i16 0]) := ⟨rfl⟩
  obtain ⟨X, hX⟩ : ∃ X, X = cellsK .i16 l := ⟨_, rfl⟩
  rw [← hX]
  have HX := Aside0.mk hX
  clear hX
  go_enter Tryd.func98, Tryd.ntmps98
  go_wp2
  go_loopw [4] (fun i wr => ∃ n : Nat, n ≤ 26 ∧ i = .int .i64 n ∧ Aside0 (wr.heap[w.heap.size]? = some (.cells X 58 (0, 0))) ∧ Aside0 (∃ cs, cs.size = 26 ∧ wr.heap[w.heap.size + 1]? = some (.cells cs 58 (0, 0))) ∧ Aside0 (wr.heap[w.heap.size + 2]? = some (.cells (cellsK .i16 (copied l n)) 58 (0, 0))) ∧ Aside0 (Below w.heap.size w wr)) (fun i _ => 26 - (intOf i).toNat)
  case atStart => 
    refine ⟨0, by omega, rfl, ⟨?_⟩, ⟨cellsK .i16 (List.replicate 26 0), ?_, ?_⟩, ⟨?_⟩, ⟨?_⟩⟩
    · exact blk_alloc (blk_alloc (blk_new w _) _) _
    · rw [cellsK_size]; simp
    · rw [HZ2.out]
      exact blk_alloc (blk_at (by simp) _) _
    · rw [HZ.out, HZ2.out]
      exact blk_at (by simp) _
    · exact (((Below.refl _ _).alloc (Nat.le_refl _) _).alloc (by simp) _).alloc (by simp <;> omega) _
  case round =>
    obtain ⟨n, hn, rfl, H0, H1, H2, HB⟩ := hrel
    clear HZ HZ2
    by_cases hlt : n < 26
    · have hltz : (n : Int) < 26 := by omega
      have hc : wr.cell? ⟨w.heap.size, n, none⟩ = some (.int .i16 (rd l n)) := cellsK_cell (k := .i16) (l := l) (by rw [← HX.out]; exact H0.out) n (by omega)
      have hc2 : wr.cell? ⟨w.heap.size + 2, n, none⟩ = some (.int .i16 (rd (copied l n) n)) := cellsK_cell H2.out n (by rw [copied_len _ _ (by omega)]; omega)
      have hf2 : wr.frozen? ⟨w.heap.size + 2, n, none⟩ = false := blk_frozen H2.out n
      have hl' := hid hl
      clear hl
      generalize hy : rd l n = y at hc
      have HY := Aside0.mk hy
      clear hy
      go_wp2
      go_roundw
      case rel =>
        refine ⟨n + 1, by omega, by go_num, ⟨?_⟩, ⟨?_⟩, ⟨?_⟩, ⟨?_⟩⟩
        · exact blk_far H0.out (by simp <;> omega) _
        · obtain ⟨cs, h1, h2⟩ := H1.out
          exact ⟨cs, h1, blk_far h2 (by simp <;> omega) _⟩
        · have := blk_set H2.out n (.int .i16 y)
          rw [cellsK_set, ← HY.out, copied_succ l n (by rw [hl'.out]; omega)] at this
          rw [← HY.out]
          exact this
        · exact HB.out.setCell (by simp <;> omega) _
      case measure => simp [intOf]; omega
    · have hltz : ¬ (n : Int) < 26 := by omega
      obtain rfl : n = 26 := by omega
      have hcop : copied l 26 = l := by rw [← hl]; exact copied_full l
      rw [hcop, ← HX.out] at H2
      have hs : X.size = 26 := by rw [HX.out, cellsK_size, hl]
      have hone : X.all (·.oneCell') = true := by rw [HX.out]; exact cellsK_one _ _
      have hl' := hid hl
      have hs' := hid hs
      have hone' := hid hone
      obtain ⟨cs, hcs, H1⟩ := H1.out
      have H1 := Aside0.mk H1
      have hcs' := hid hcs
      clear hl hcop hs hone hcs
      go_wp2_with (first | ((with_reducible refine gate_dst (N := 14) rfl ?_); refine wpList_load_row rfl 58 (.tmp 3) rfl (w.heap.size + 2) rfl _ _ _ _ H2.out Tryd.underlying58 rfl (by rw [hs'.out]; exact info_laws_toInt16A26) ?_) | ((with_reducible refine gate_store (t := 58) (p := 2) rfl ?_); refine ev_store_row rfl 58 (.tmp 2) (.tmp 14) rfl rfl (w.heap.size + 1) X rfl rfl _ cs H1.out (by rw [hs'.out]; exact info_laws_toInt16A26) (by rw [hs'.out, hcs'.out]) hone'.out ?_; intro w1 hb1 hk1 hbel))
      refine bodyPost_ret (results_cell_row rfl _ _ (w.heap.size + 1) _ X (0, 0) _ rfl hb1 Tryd.underlying58 rfl (by rw [hs'.out]; exact info_laws_toInt16A26)) rfl ⟨rfl, ?_⟩
      exact HB.out.trans (hbel _ (by omega))
theorem info_laws_toInt8A26 : (Tryd.prog.info? 23).map (·.size) = some 26 := by kernel_rfl
set_option maxHeartbeats 1000000 in
theorem laws_toInt8A26_calls (l : List Int) (hl : l.length = 26) (w : World) :
    Calls Tryd.prog 66 #[.agg (cellsK .i8 l)] w fun e w' => e = .returned (.agg (cellsK .i8 l)) ∧ Below w.heap.size w w' := by
  have HZ : Aside0 (cellsK .i8 (copied l 0) = cellsK .i8 (List.replicate 26 0)) := ⟨by rw [copied_zero, hl]⟩
  have HZ2 : Aside0 (cellsK .i8 (List.replicate 26 0) = #[.int .i8 0, .int .i8 0, .int .i8 0, .int .i8 0, .int .i8 0, .int .i8 0, .int .i8 0, .int .i8 0, .int .i8 0, .int .i8 0, .int .i8 0, .int .i8 0, .int .i8 0, .int .i8 0, .int .i8 0, .int .i8 0, .int .i8 0, .int .i8 0, .int .i8 0, .int .i8 0, .int .i8 0, .int .i8 0, .int .i8 0, .int .i8 0, .int .i8 0, .int .i8 0]) := ⟨rfl⟩
  obtain ⟨X, hX⟩ : ∃ X, X = cellsK .i8 l := ⟨_, rfl⟩
  rw [← hX]
  have HX := Aside0.mk hX
  clear hX
  go_enter Tryd.func66, Tryd.ntmps66
  go_wp2
  go_loopw [4] (fun i wr => ∃ n : Nat, n ≤ 26 ∧ i = .int .i64 n ∧ Aside0 (wr.heap[w.heap.size]? = some (.cells X 23 (0, 0))) ∧ Aside0 (∃ cs, cs.size = 26 ∧ wr.heap[w.heap.size + 1]? = some (.cells cs 23 (0, 0))) ∧ Aside0 (wr.heap[w.heap.size + 2]? = some (.cells (cellsK .i8 (copied l n)) 23 (0, 0))) ∧ Aside0 (Below w.heap.size w wr)) (fun i _ => 26 - (intOf i).toNat)
  case atStart => 
    refine ⟨0, by omega, rfl, ⟨?_⟩, ⟨cellsK .i8 (List.replicate 26 0), ?_, ?_⟩, ⟨?_⟩, ⟨?_⟩⟩
    · exact blk_alloc (blk_alloc (blk_new w _) _) _
    · rw [cellsK_size]; simp
    · rw [HZ2.out]
      exact blk_alloc (blk_at (by simp) _) _
    · rw [HZ.out, HZ2.out]
      exact blk_at (by simp) _
    · exact (((Below.refl _ _).alloc (Nat.le_refl _) _).alloc (by simp) _).alloc (by simp <;> omega) _
  case round =>
    obtain ⟨n, hn, rfl, H0, H1, H2, HB⟩ := hrel
    clear HZ HZ2
    by_cases hlt : n < 26
    · have hltz : (n : Int) < 26 := by omega
      have hc : wr.cell? ⟨w.heap.size, n, none⟩ = some (.int .i8 (rd l n)) := cellsK_cell (k := .i8) (l := l) (by rw [← HX.out]; exact H0.out) n (by omega)
      have hc2 : wr.cell? ⟨w.heap.size + 2, n, none⟩ = some (.int .i8 (rd (copied l n) n)) := cellsK_cell H2.out n (by rw [copied_len _ _ (by omega)]; omega)
      have hf2 : wr.frozen? ⟨w.heap.size + 2, n, none⟩ = false := blk_frozen H2.out n
      have hl' := hid hl
      clear hl
      generalize hy : rd l n = y at hc
      have HY := Aside0.mk hy
      clear hy
      go_wp2
      go_roundw
      case rel =>
        refine ⟨n + 1, by omega, by go_num, ⟨?_⟩, ⟨?_⟩, ⟨?_⟩, ⟨?_⟩⟩
        · exact blk_far H0.out (by simp <;> omega) _
        · obtain ⟨cs, h1, h2⟩ := H1.out
          exact ⟨cs, h1, blk_far h2 (by simp <;> omega) _⟩
        · have := blk_set H2.out n (.int .i8 y)
          rw [cellsK_set, ← HY.out, copied_succ l n (by rw [hl'.out]; omega)] at this
          rw [← HY.out]
          exact this
        · exact HB.out.setCell (by simp <;> omega) _
      case measure => simp [intOf]; omega
    · have hltz : ¬ (n : Int) < 26 := by omega
      obtain rfl : n = 26 := by omega
      have hcop : copied l 26 = l := by rw [← hl]; exact copied_full l
      rw [hcop, ← HX.out] at H2
      have hs : X.size = 26 := by rw [HX.out, cellsK_size, hl]
      have hone : X.all (·.oneCell') = true := by rw [HX.out]; exact cellsK_one _ _
      have hl' := hid hl
      have hs' := hid hs
      have hone' := hid hone
      obtain ⟨cs, hcs, H1⟩ := H1.out
      have H1 := Aside0.mk H1
      have hcs' := hid hcs
      clear hl hcop hs hone hcs
      go_wp2_with (first | ((with_reducible refine gate_dst (N := 14) rfl ?_); refine wpList_load_row rfl 23 (.tmp 3) rfl (w.heap.size + 2) rfl _ _ _ _ H2.out Tryd.underlying23 rfl (by rw [hs'.out]; exact info_laws_toInt8A26) ?_) | ((with_reducible refine gate_store (t := 23) (p := 2) rfl ?_); refine ev_store_row rfl 23 (.tmp 2) (.tmp 14) rfl rfl (w.heap.size + 1) X rfl rfl _ cs H1.out (by rw [hs'.out]; exact info_laws_toInt8A26) (by rw [hs'.out, hcs'.out]) hone'.out ?_; intro w1 hb1 hk1 hbel))
      refine bodyPost_ret (results_cell_row rfl _ _ (w.heap.size + 1) _ X (0, 0) _ rfl hb1 Tryd.underlying23 rfl (by rw [hs'.out]; exact info_laws_toInt8A26)) rfl ⟨rfl, ?_⟩
      exact HB.out.trans (hbel _ (by omega))
end Go.Proofs.YticjkfacdmmopaaDoor.Ext
namespace Go.Proofs.YticjkfacdmmopaaDoor.Open
open Go.ChangeShapes Go.WideShapes Go.ChangeAt Go.RowKit Go.Proofs.YticjkfacdmmopaaDoor.Ext Go.Proofs.YticjkfacdmmopaaDoorW.PrintWords
set_option linter.unusedVariables false
set_option linter.unusedSimpArgs false
variable {H : Type} {enc : TypeId × Value → H} {P : Program} {w : World} {spare : Nat → Bool} {held : Bool} {t : TypeId}
theorem arr_list {k : IntKind} {n : Nat} {e : TypeId} {fuel : Nat} {cs : List Value} {x : DataW H × List MemPlace} (ht : P.underlying t = some (.array n e)) (he : P.underlying e = some (.int k)) (hc : P.cellsOf e = 1) (hn : P.cellsOf t = n)
    (h : DataW.trod enc P w 0 spare held fuel t cs = some x) : ∃ l : List Int, cs = nums k l ∧ l.length = n ∧ ∀ y ∈ l, (Lit.int k y).wf = true := by
  obtain ⟨xs, m, _, _, hl, hxs, hi⟩ := DataW.trod_array ht h
  rw [hn] at hl
  have each : ∀ i, i < n → ∃ y, cs[i]? = some (.int k y) ∧ (Lit.int k y).wf = true := by
    intro i hi'
    have h2 := hi i hi'
    rw [hc, Nat.mul_one] at h2
    obtain ⟨z, hz⟩ : ∃ z, xs[i]? = some z := ⟨xs[i]'(by omega), List.getElem?_eq_getElem (by omega)⟩
    rw [hz] at h2
    obtain ⟨y, hy, _, hw⟩ := DataW.trod_int he h2
    refine ⟨y, ?_, hw⟩
    have := congrArg (fun l => l[0]?) hy
    simpa [List.getElem?_take, List.getElem?_drop] using this
  refine ⟨cs.map fun v => (intOf v), ?_, by simpa using hl, ?_⟩
  · apply List.ext_getElem?
    intro i
    by_cases hi' : i < n
    · obtain ⟨y, hy, _⟩ := each i hi'
      simp [nums, hy, intOf]
    · rw [List.getElem?_eq_none (by omega), List.getElem?_eq_none (by simp [nums]; omega)]
  · intro y hy
    rw [List.mem_map] at hy
    obtain ⟨v, hv, rfl⟩ := hy
    obtain ⟨i, hi', rfl⟩ := List.mem_iff_getElem.1 hv
    obtain ⟨y, hy, hw⟩ := each i (by omega)
    rw [List.getElem?_eq_getElem hi'] at hy
    injection hy with hy
    rw [hy]; exact hw
theorem open_arr3 {k : IntKind} {r : Reach} {b0 n : Nat} {f0 f1 f2 f3 : Field} {e : TypeId} {v : Value} {d : DataW H} {p : List MemPlace} (ht : P.underlying t = some (.struct #[f0, f1, f2, f3])) (h0 : P.underlying f0.type = some (.array n e)) (he : P.underlying e = some (.int k))
    (hc : P.cellsOf e = 1) (hn : P.cellsOf f0.type = n) (h1 : P.underlying f1.type = some (.int k)) (h2 : P.underlying f2.type = some (.int k)) (h3 : P.underlying f3.type = some (.int k)) (o0 : f0.offset = 0) (o1 : f1.offset = n) (o2 : f2.offset = n + 1) (o3 : f3.offset = n + 2)
    (c1 : P.cellsOf f1.type = 1) (c2 : P.cellsOf f2.type = 1) (c3 : P.cellsOf f3.type = 1) (hC : P.cellsOf t = n + 3)
    (hv : Value.okWide P w r b0 t v) (h : DataW.Trod enc P w 0 spare held t v d p) : ∃ l : List Int, v = .agg (cellsK k l) ∧ l.length = n + 3 ∧ ∀ y ∈ l, (Lit.int k y).wf = true := by
  obtain ⟨cs, rfl, _⟩ := okWide_struct ht hv
  obtain ⟨fuel, hf⟩ := h
  obtain ⟨xs, m, _, _, hl, hxs, hi⟩ := DataW.trod_struct ht hf
  have hlen : xs.length = 4 := by simpa using hxs
  rw [hC] at hl
  have get : ∀ i, i < 4 → ∃ z, xs[i]? = some z := fun i hi' => ⟨xs[i]'(by omega), List.getElem?_eq_getElem (by omega)⟩
  have e0 := hi 0 f0 rfl
  have e1 := hi 1 f1 rfl
  have e2 := hi 2 f2 rfl
  have e3 := hi 3 f3 rfl
  obtain ⟨z0, hz0⟩ := get 0 (by omega)
  obtain ⟨z1, hz1⟩ := get 1 (by omega)
  obtain ⟨z2, hz2⟩ := get 2 (by omega)
  obtain ⟨z3, hz3⟩ := get 3 (by omega)
  rw [hz0, o0, hn, List.drop_zero] at e0
  rw [hz1, o1, c1] at e1
  rw [hz2, o2, c2] at e2
  rw [hz3, o3, c3] at e3
  obtain ⟨l, q1, q2, q3⟩ := arr_list h0 he hc hn e0
  obtain ⟨a, a1, _, a3⟩ := DataW.trod_int h1 e1
  obtain ⟨b, b1, _, b3⟩ := DataW.trod_int h2 e2
  obtain ⟨c, c1', _, c3'⟩ := DataW.trod_int h3 e3
  refine ⟨l ++ [a, b, c], ?_, by simp [q2], ?_⟩
  · unfold cellsK
    have e : nums k (l ++ [a, b, c]) = (Value.agg cs).cells.toList := by
      rw [nums_append, ← q1]
      have : nums k [a, b, c] = [.int k a] ++ ([.int k b] ++ [.int k c]) := rfl
      rw [this, ← a1, ← b1, ← c1']
      generalize (Value.agg cs).cells.toList = L at *
      apply List.ext_getElem?
      intro i
      simp only [List.getElem?_append, List.length_append, List.length_take, List.length_drop, List.getElem?_take, List.getElem?_drop]
      by_cases h1 : i < n
      · rw [if_pos (by omega), if_pos h1]
      · rw [if_neg (by omega)]
        by_cases h2 : i = n
        · subst h2
          rw [if_pos (by omega), if_pos (by omega)]
          congr 1; omega
        · rw [if_neg (by omega)]
          by_cases h3 : i = n + 1
          · subst h3
            rw [if_pos (by omega), if_pos (by omega)]
            congr 1; omega
          · rw [if_neg (by omega)]
            by_cases h4 : i = n + 2
            · subst h4
              rw [if_pos (by omega)]
              congr 1; omega
            · rw [if_neg (by omega), List.getElem?_eq_none (by omega)]
    rw [e]
    simp [Value.cells]
  · intro y hy
    rw [List.mem_append] at hy
    rcases hy with hy | hy
    · exact q3 y hy
    · simp at hy
      rcases hy with rfl | rfl | rfl <;> assumption
theorem wf_i8 {y : Int} (h : (Lit.int .i8 y).wf = true) : -128 ≤ y ∧ y ≤ 127 := by simpa [Lit.wf, IntKind.min, IntKind.max, IntKind.signed, IntKind.bits] using h
theorem wf_i16 {y : Int} (h : (Lit.int .i16 y).wf = true) : -32768 ≤ y ∧ y ≤ 32767 := by simpa [Lit.wf, IntKind.min, IntKind.max, IntKind.signed, IntKind.bits] using h
theorem wf_u8 {y : Int} (h : (Lit.int .u8 y).wf = true) : 0 ≤ y ∧ y ≤ 255 := by simpa [Lit.wf, IntKind.min, IntKind.max, IntKind.signed, IntKind.bits] using h
end Go.Proofs.YticjkfacdmmopaaDoor.Open
namespace Go.Proofs.YticjkfacdmmopaaDoor.Ext
open Go.RowKit Go.Proofs.YticjkfacdmmopaaDoorW.PrintWords Go.Proofs.YticjkfacdmmopaaDoorW.PrintLast Go.Proofs.YticjkfacdmmopaaDoorW.PrintMore
set_option linter.unusedVariables false
set_option linter.unusedSimpArgs false
structure GlobM (w : World) : Prop where
  m : ∃ m, w.cell? ⟨0, 0, none⟩ = some (.int .i64 m)
theorem cell_below {w w1 : World} (hb : Below w.heap.size w w1) {g : Nat} {v : Value} (hc : w.cell? ⟨g, 0, none⟩ = some v) : w1.cell? ⟨g, 0, none⟩ = some v :=
  (hb.cell (World.block_lt_of_cell? w _ hc)).trans hc
theorem GlobM.below {w w1 : World} (h : GlobM w) (hb : Below w.heap.size w w1) : GlobM w1 := by
  obtain ⟨m, hm⟩ := h.m
  exact ⟨⟨m, cell_below hb hm⟩⟩
end Go.Proofs.YticjkfacdmmopaaDoor.Ext
