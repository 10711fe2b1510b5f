/- Arrays of small numbers as lists: their cells, copies of them, loops over them. -/
import Derived.Test.YthdoeefaibeodaaDoorExtA
import Derived.Deep.MidRow
namespace Go.Proofs.YthdoeefaibeodaaDoor.Ext
open Go.RowKit Go.Proofs.YthdoeefaibeodaaDoorW.PrintWords Go.Proofs.YthdoeefaibeodaaDoorW.PrintLast Go.Proofs.YthdoeefaibeodaaDoorW.PrintMore
set_option linter.unusedVariables false
set_option linter.unusedSimpArgs false

/-- The cells of an array of numbers. -/
def cellsK (k : IntKind) (l : List Int) : Array Value := (nums k l).toArray
theorem cellsK_size (k : IntKind) (l : List Int) : (cellsK k l).size = l.length := by simp [cellsK, nums]
theorem cellsK_get (k : IntKind) (l : List Int) (n : Nat) (h : n < l.length) : (cellsK k l)[n]? = some (.int k (rd l n)) := by
  simp [cellsK, nums, rd, List.getD_eq_getElem?_getD, List.getElem?_eq_getElem h]
theorem cellsK_one (k : IntKind) (l : List Int) : (cellsK k l).all (·.oneCell') = true := by
  rw [Array.all_eq_true_iff_forall_mem]
  intro v hv
  simp only [cellsK, nums, List.mem_toArray, List.mem_map] at hv
  obtain ⟨x, _, rfl⟩ := hv
  rfl
theorem cellsK_set (k : IntKind) (l : List Int) (n : Nat) (x : Int) : (cellsK k l).setIfInBounds n (.int k x) = cellsK k (l.set n x) := by
  simp [cellsK, nums, List.map_set]
theorem cellsK_cell {w : World} {g : Nat} {t : TypeId} {k : IntKind} {l : List Int} (h : w.heap[g]? = some (.cells (cellsK k l) t (0, 0))) (n : Nat) (hn : n < l.length) : w.cell? ⟨g, n, none⟩ = some (.int k (rd l n)) :=
  (blk_cell h n).trans (cellsK_get k l n hn)
theorem blk_at {W : World} {n : Nat} (h : W.heap.size = n) (o : Obj) : (W.alloc o).heap[n]? = some o := by subst h; exact blk_new W o
theorem rd_mem' (l : List Int) (n : Nat) (h : n < l.length) : rd l n ∈ l := by
  have e : rd l n = l[n] := by simp [rd, List.getD_eq_getElem?_getD, List.getElem?_eq_getElem h]
  rw [e]; exact List.getElem_mem h
theorem all_snoc' (p : Int → Bool) (l : List Int) (n : Nat) (h : n < l.length) : (l.take (n + 1)).all p = ((l.take n).all p && p (rd l n)) := by
  have e : rd l n = l[n] := by simp [rd, List.getD_eq_getElem?_getD, List.getElem?_eq_getElem h]
  rw [List.take_succ_eq_append_getElem h, List.all_append, e]; simp
theorem all_take_false (p : Int → Bool) (l : List Int) (n : Nat) (h : n < l.length) (hp : p (rd l n) = false) : l.all p = false := by
  rw [Bool.eq_false_iff]
  intro ha
  have := List.all_eq_true.1 ha _ (rd_mem' l n h)
  rw [hp] at this; cases this
/-- What has been copied behind n rounds. -/
def copied (l : List Int) (n : Nat) : List Int := l.take n ++ List.replicate (l.length - n) 0
theorem copied_len (l : List Int) (n : Nat) (h : n ≤ l.length) : (copied l n).length = l.length := by simp [copied]; omega
theorem copied_succ (l : List Int) (n : Nat) (h : n < l.length) : (copied l n).set n (rd l n) = copied l (n + 1) := by
  have e : rd l n = l[n] := by simp [rd, List.getD_eq_getElem?_getD, List.getElem?_eq_getElem h]
  unfold copied
  rw [List.set_append_right _ _ (by simp <;> omega), List.take_succ_eq_append_getElem h, e, List.append_assoc]
  congr 1
  obtain ⟨m, hm⟩ : ∃ m, l.length - n = m + 1 := ⟨l.length - n - 1, by omega⟩
  rw [hm, show l.length - (n + 1) = m by omega, List.replicate_succ]
  simp [show n - min n l.length = 0 by omega]
theorem copied_full (l : List Int) : copied l l.length = l := by simp [copied]
theorem copied_zero (l : List Int) : copied l 0 = List.replicate l.length 0 := by simp [copied]

section
variable {P : Program} {ops : Array Oper} {rest : List Oper} {o : Oper} {a : Act} {Q : Exit → Act → World → Prop} {W : World}
/-- A whole array is stored into a block: the world gets a name. -/
theorem ev_store_row (hgd : o.guard = none) (ty : TypeId) (x y : Operand) (ho : o.op = .store ty x y) (hN : o.dst = none)
    (g : Nat) (cells : Array Value) (hx : a.eval x = .pointer (some ⟨g, 0, none⟩)) (hy : a.eval y = .agg cells)
    (t : TypeId) (old : Array Value) (hg : W.heap[g]? = some (.cells old t (0, 0))) (hi : (P.info? ty).map (·.size) = some cells.size)
    (hold : old.size = cells.size) (h1 : cells.all (·.oneCell') = true)
    (h : ∀ w1, w1.heap[g]? = some (.cells cells t (0, 0)) → Kept W w1 (fun k => k = g) → (∀ B, B ≤ g → Below B W w1) → wpList P ops Q rest a w1) : wpList P ops Q (o :: rest) a W := by
  refine wpList_store_row hgd ty x y ho g cells hx hy t old hg hi hold h1 ?_
  rw [hN]
  refine h _ (setRow_heap W g old cells t (0, 0) hg) ⟨by simp, fun i hi hn => setRow_other W g i cells hn⟩ (fun B hB => ⟨rfl, rfl, rfl, by simp, fun k hk => setRow_other W g k cells (by omega)⟩)
/-- An array is stored into a part of a block of numbers: the world gets a name. -/
theorem ev_store_at (hgd : o.guard = none) (ty : TypeId) (x y : Operand) (ho : o.op = .store ty x y) (hN : o.dst = none)
    (g off : Nat) (k : IntKind) (L l : List Int) (hx : a.eval x = .pointer (some ⟨g, off, none⟩)) (hy : a.eval y = .agg (cellsK k l))
    (t : TypeId) (hg : W.heap[g]? = some (.cells (cellsK k L) t (0, 0))) (hi : (P.info? ty).map (·.size) = some l.length) (hfit : off + l.length ≤ L.length)
    (h : ∀ w1, w1.heap[g]? = some (.cells (cellsK k (L.take off ++ l ++ L.drop (off + l.length))) t (0, 0)) → Kept W w1 (fun k => k = g) → (∀ B, B ≤ g → Below B W w1) → wpList P ops Q rest a w1) : wpList P ops Q (o :: rest) a W := by
  have hst := run_storeCells_at P g off t (cellsK k l).toList 0 (cellsK k L) W hg (by simpa [cellsK, nums] using hfit) (fun v hv => (Array.all_eq_true_iff_forall_mem.1 (cellsK_one k l)) v (by simpa using hv))
  have hrun : (storeVar ty ⟨g, off, none⟩ (.agg (cellsK k l))).run P W = .ok () (W.setRow g (cellsK k (L.take off ++ l ++ L.drop (off + l.length)))) := by
    cases hq : P.info? ty with
    | none => simp [hq] at hi
    | some i =>
      have hs : l.length = i.size := by simp [hq] at hi; omega
      have hs2 : (cellsK k l).size = i.size := by rw [cellsK_size, hs]
      have e : (((cellsK k L).toList.take (off + 0) ++ (cellsK k l).toList ++ (cellsK k L).toList.drop (off + 0 + (cellsK k l).toList.length)).toArray) = cellsK k (L.take off ++ l ++ L.drop (off + l.length)) := by
        simp [cellsK, nums, List.map_take, List.map_drop]
      rw [e] at hst
      simp [storeVar, sizeOf, typeInfo, hq, Value.cells, hs2, hst]
  refine wpList_plain hgd fun K hK => ?_
  unfold Oper.wp execOp
  simp only [ho, hx, hy, Instr.storeAt, Instr.sureAddr, Sem.run_bind, Sem.run_pure, Result.andThen_ok, hrun]
  refine hK _ _ ?_
  have e : a.put o.dst undef = a := by rw [hN]; rfl
  rw [e]
  refine h _ (setRow_heap W g (cellsK k L) _ t (0, 0) hg) ⟨by simp, fun i hi hn => setRow_other W g i _ hn⟩ (fun B hB => ⟨rfl, rfl, rfl, by simp, fun k hk => setRow_other W g k _ (by omega)⟩)
/-- A part of a block of numbers is loaded as an array. -/
theorem ev_load_at (hgd : o.guard = none) (ty : TypeId) (x : Operand) (ho : o.op = .load ty x)
    (g off n : Nat) (k : IntKind) (L : List Int) (hx : a.eval x = .pointer (some ⟨g, off, none⟩)) (t : TypeId) (d : TypeDesc) (hg : W.heap[g]? = some (.cells (cellsK k L) t (0, 0)))
    (hu : P.underlying ty = some d) (hd : d.isRow = true) (hfit : off + n ≤ L.length) (hi : (P.info? ty).map (·.size) = some n)
    (h : wpList P ops Q rest (a.put o.dst (.agg (cellsK k ((L.drop off).take n)))) W) : wpList P ops Q (o :: rest) a W := by
  refine wpList_load_mid hgd ty x ho g off hx (nums k ((L.drop off).take n)) d ?_ hu hd (by rw [hi]; simp [nums]; omega) h
  intro j v hj
  have hj' : j < n := by
    have := (List.getElem?_eq_some_iff.1 hj).1
    simp [nums] at this; omega
  have h1 := cellsK_cell hg (off + j) (by omega)
  have h2 : (nums k ((L.drop off).take n))[j]? = some (.int k (rd L ((off + j : Nat) : Int))) := by
    have h3 : off + j < L.length := by omega
    have h4 : rd L ((off + j : Nat) : Int) = L[off + j] := by simp only [rd, Int.toNat_natCast, List.getD_eq_getElem?_getD, List.getElem?_eq_getElem h3, Option.getD_some]
    rw [h4]
    simp only [nums, List.getElem?_map, List.getElem?_take, hj', List.getElem?_drop, List.getElem?_eq_getElem h3, if_true, Option.map_some]
  rw [h2] at hj
  rw [← hj]
  exact h1
end


theorem info_laws_toStrokes : (Tryd.prog.info? 25).map (·.size) = some 26 := by kernel_rfl
set_option maxHeartbeats 1000000 in
theorem laws_toStrokes_calls (l : List Int) (hl : l.length = 26) (w : World) :
    Calls Tryd.prog 16 #[.agg (cellsK .i8 l)] w fun e w' => e = .returned (.agg (cellsK .i8 l)) ∧ Below w.heap.size w w' := by
  have HZ : Aside0 (cellsK .i8 (copied l 0) = cellsK .i8 (List.replicate 26 0)) := ⟨by rw [copied_zero, hl]⟩
  have HZ2 : Aside0 (cellsK .i8 (List.replicate 26 0) = #[.int .i8 0, .int .i8 0, .int .i8 0, .int .i8 0, .int .i8 0, .int .i8 0, .int .i8 0, .int .i8 0, .int .i8 0, .int .i8 0, .int .i8 0, .int .i8 0, .int .i8 0, .int .i8 0, .int .i8 0, .int .i8 0, .int .i8 0, .int .i8 0, .int .i8 0, .int .i8 0, .int .i8 0, .int .i8 0, .int .i8 0, .int .i8 0, .int .i8 0, .int .i8 0]) := ⟨rfl⟩
  obtain ⟨X, hX⟩ : ∃ X, X = cellsK .i8 l := ⟨_, rfl⟩
  rw [← hX]
  have HX := Aside0.mk hX
  clear hX
  go_enter Tryd.func16, Tryd.ntmps16
  go_wp2
  go_loopw [4] (fun i wr => ∃ n : Nat, n ≤ 26 ∧ i = .int .i64 n ∧ Aside0 (wr.heap[w.heap.size]? = some (.cells X 23 (0, 0))) ∧ Aside0 (∃ cs, cs.size = 26 ∧ wr.heap[w.heap.size + 1]? = some (.cells cs 25 (0, 0))) ∧ Aside0 (wr.heap[w.heap.size + 2]? = some (.cells (cellsK .i8 (copied l n)) 25 (0, 0))) ∧ Aside0 (Below w.heap.size w wr)) (fun i _ => 26 - (intOf i).toNat)
  case atStart => 
    refine ⟨0, by omega, rfl, ⟨?_⟩, ⟨cellsK .i8 (List.replicate 26 0), ?_, ?_⟩, ⟨?_⟩, ⟨?_⟩⟩
    · exact blk_alloc (blk_alloc (blk_new w _) _) _
    · rw [cellsK_size]; simp
    · rw [HZ2.out]
      exact blk_alloc (blk_at (by simp) _) _
    · rw [HZ.out, HZ2.out]
      exact blk_at (by simp) _
    · exact (((Below.refl _ _).alloc (Nat.le_refl _) _).alloc (by simp) _).alloc (by simp <;> omega) _
  case round =>
    obtain ⟨n, hn, rfl, H0, H1, H2, HB⟩ := hrel
    clear HZ HZ2
    by_cases hlt : n < 26
    · have hltz : (n : Int) < 26 := by omega
      have hc : wr.cell? ⟨w.heap.size, n, none⟩ = some (.int .i8 (rd l n)) := cellsK_cell (k := .i8) (l := l) (by rw [← HX.out]; exact H0.out) n (by omega)
      have hc2 : wr.cell? ⟨w.heap.size + 2, n, none⟩ = some (.int .i8 (rd (copied l n) n)) := cellsK_cell H2.out n (by rw [copied_len _ _ (by omega)]; omega)
      have hf2 : wr.frozen? ⟨w.heap.size + 2, n, none⟩ = false := blk_frozen H2.out n
      have hl' := hid hl
      clear hl
      generalize hy : rd l n = y at hc
      have HY := Aside0.mk hy
      clear hy
      go_wp2
      go_roundw
      case rel =>
        refine ⟨n + 1, by omega, by go_num, ⟨?_⟩, ⟨?_⟩, ⟨?_⟩, ⟨?_⟩⟩
        · exact blk_far H0.out (by simp <;> omega) _
        · obtain ⟨cs, h1, h2⟩ := H1.out
          exact ⟨cs, h1, blk_far h2 (by simp <;> omega) _⟩
        · have := blk_set H2.out n (.int .i8 y)
          rw [cellsK_set, ← HY.out, copied_succ l n (by rw [hl'.out]; omega)] at this
          rw [← HY.out]
          exact this
        · exact HB.out.setCell (by simp <;> omega) _
      case measure => simp [intOf]; omega
    · have hltz : ¬ (n : Int) < 26 := by omega
      obtain rfl : n = 26 := by omega
      have hcop : copied l 26 = l := by rw [← hl]; exact copied_full l
      rw [hcop, ← HX.out] at H2
      have hs : X.size = 26 := by rw [HX.out, cellsK_size, hl]
      have hone : X.all (·.oneCell') = true := by rw [HX.out]; exact cellsK_one _ _
      have hl' := hid hl
      have hs' := hid hs
      have hone' := hid hone
      obtain ⟨cs, hcs, H1⟩ := H1.out
      have H1 := Aside0.mk H1
      have hcs' := hid hcs
      clear hl hcop hs hone hcs
      go_wp2_with (first | ((with_reducible refine gate_dst (N := 14) rfl ?_); refine wpList_load_row rfl 25 (.tmp 3) rfl (w.heap.size + 2) rfl _ _ _ _ H2.out Tryd.underlying25 rfl (by rw [hs'.out]; exact info_laws_toStrokes) ?_) | ((with_reducible refine gate_store (t := 25) (p := 2) rfl ?_); refine ev_store_row rfl 25 (.tmp 2) (.tmp 14) rfl rfl (w.heap.size + 1) X rfl rfl _ cs H1.out (by rw [hs'.out]; exact info_laws_toStrokes) (by rw [hs'.out, hcs'.out]) hone'.out ?_; intro w1 hb1 hk1 hbel))
      refine bodyPost_ret (results_cell_row rfl _ _ (w.heap.size + 1) _ X (0, 0) _ rfl hb1 Tryd.underlying25 rfl (by rw [hs'.out]; exact info_laws_toStrokes)) rfl ⟨rfl, ?_⟩
      exact HB.out.trans (hbel _ (by omega))


theorem info_laws_toInt16A26 : (Tryd.prog.info? 29).map (·.size) = some 26 := by kernel_rfl
set_option maxHeartbeats 1000000 in
theorem laws_toInt16A26_calls (l : List Int) (hl : l.length = 26) (w : World) :
    Calls Tryd.prog 57 #[.agg (cellsK .i16 l)] w fun e w' => e = .returned (.agg (cellsK .i16 l)) ∧ Below w.heap.size w w' := by
  have HZ : Aside0 (cellsK .i16 (copied l 0) = cellsK .i16 (List.replicate 26 0)) := ⟨by rw [copied_zero, hl]⟩
  have HZ2 : Aside0 (cellsK .i16 (List.replicate 26 0) = #[.int .i16 0, .int .i16 0, .int .i16 0, .int .i16 0, .int .i16 0, .int .i16 0, .int .i16 0, .int .i16 0, .int .i16 0, .int .i16 0, .int .i16 0, .int .i16 0, .int .i16 0, .int .i16 0, .int .i16 0, .int .i16 0, .int .i16 0, .int .i16 0, .int .i16 0, .int .i16 0, .int .i16 0, .int .i16 0, .int .i16 0, .int .i16 0, .int .i16 0, .int .i16 0]) := ⟨rfl⟩
  obtain ⟨X, hX⟩ : ∃ X, X = cellsK .i16 l := ⟨_, rfl⟩
  rw [← hX]
  have HX := Aside0.mk hX
  clear hX
  go_enter Tryd.func57, Tryd.ntmps57
  go_wp2
  go_loopw [4] (fun i wr => ∃ n : Nat, n ≤ 26 ∧ i = .int .i64 n ∧ Aside0 (wr.heap[w.heap.size]? = some (.cells X 29 (0, 0))) ∧ Aside0 (∃ cs, cs.size = 26 ∧ wr.heap[w.heap.size + 1]? = some (.cells cs 29 (0, 0))) ∧ Aside0 (wr.heap[w.heap.size + 2]? = some (.cells (cellsK .i16 (copied l n)) 29 (0, 0))) ∧ Aside0 (Below w.heap.size w wr)) (fun i _ => 26 - (intOf i).toNat)
  case atStart => 
    refine ⟨0, by omega, rfl, ⟨?_⟩, ⟨cellsK .i16 (List.replicate 26 0), ?_, ?_⟩, ⟨?_⟩, ⟨?_⟩⟩
    · exact blk_alloc (blk_alloc (blk_new w _) _) _
    · rw [cellsK_size]; simp
    · rw [HZ2.out]
      exact blk_alloc (blk_at (by simp) _) _
    · rw [HZ.out, HZ2.out]
      exact blk_at (by simp) _
    · exact (((Below.refl _ _).alloc (Nat.le_refl _) _).alloc (by simp) _).alloc (by simp <;> omega) _
  case round =>
    obtain ⟨n, hn, rfl, H0, H1, H2, HB⟩ := hrel
    clear HZ HZ2
    by_cases hlt : n < 26
    · have hltz : (n : Int) < 26 := by omega
      have hc : wr.cell? ⟨w.heap.size, n, none⟩ = some (.int .i16 (rd l n)) := cellsK_cell (k := .i16) (l := l) (by rw [← HX.out]; exact H0.out) n (by omega)
      have hc2 : wr.cell? ⟨w.heap.size + 2, n, none⟩ = some (.int .i16 (rd (copied l n) n)) := cellsK_cell H2.out n (by rw [copied_len _ _ (by omega)]; omega)
      have hf2 : wr.frozen? ⟨w.heap.size + 2, n, none⟩ = false := blk_frozen H2.out n
      have hl' := hid hl
      clear hl
      generalize hy : rd l n = y at hc
      have HY := Aside0.mk hy
      clear hy
      go_wp2
      go_roundw
      case rel =>
        refine ⟨n + 1, by omega, by go_num, ⟨?_⟩, ⟨?_⟩, ⟨?_⟩, ⟨?_⟩⟩
        · exact blk_far H0.out (by simp <;> omega) _
        · obtain ⟨cs, h1, h2⟩ := H1.out
          exact ⟨cs, h1, blk_far h2 (by simp <;> omega) _⟩
        · have := blk_set H2.out n (.int .i16 y)
          rw [cellsK_set, ← HY.out, copied_succ l n (by rw [hl'.out]; omega)] at this
          rw [← HY.out]
          exact this
        · exact HB.out.setCell (by simp <;> omega) _
      case measure => simp [intOf]; omega
    · have hltz : ¬ (n : Int) < 26 := by omega
      obtain rfl : n = 26 := by omega
      have hcop : copied l 26 = l := by rw [← hl]; exact copied_full l
      rw [hcop, ← HX.out] at H2
      have hs : X.size = 26 := by rw [HX.out, cellsK_size, hl]
      have hone : X.all (·.oneCell') = true := by rw [HX.out]; exact cellsK_one _ _
      have hl' := hid hl
      have hs' := hid hs
      have hone' := hid hone
      obtain ⟨cs, hcs, H1⟩ := H1.out
      have H1 := Aside0.mk H1
      have hcs' := hid hcs
      clear hl hcop hs hone hcs
      go_wp2_with (first | ((with_reducible refine gate_dst (N := 14) rfl ?_); refine wpList_load_row rfl 29 (.tmp 3) rfl (w.heap.size + 2) rfl _ _ _ _ H2.out Tryd.underlying29 rfl (by rw [hs'.out]; exact info_laws_toInt16A26) ?_) | ((with_reducible refine gate_store (t := 29) (p := 2) rfl ?_); refine ev_store_row rfl 29 (.tmp 2) (.tmp 14) rfl rfl (w.heap.size + 1) X rfl rfl _ cs H1.out (by rw [hs'.out]; exact info_laws_toInt16A26) (by rw [hs'.out, hcs'.out]) hone'.out ?_; intro w1 hb1 hk1 hbel))
      refine bodyPost_ret (results_cell_row rfl _ _ (w.heap.size + 1) _ X (0, 0) _ rfl hb1 Tryd.underlying29 rfl (by rw [hs'.out]; exact info_laws_toInt16A26)) rfl ⟨rfl, ?_⟩
      exact HB.out.trans (hbel _ (by omega))



end Go.Proofs.YthdoeefaibeodaaDoor.Ext
