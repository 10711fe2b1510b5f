/- Contracts and plain laws of functions of the given program; no conditions beside those in the theorems. -/
import Derived.WalkKit
import Derived.BigQuiet
import Derived.Deep.QuietTactic
import Derived.Test.YticjkfacdmmopaaDoorProg
import Derived.Test.YticjkfacdmmopaaDoorWWords
import Derived.Test.YticjkfacdmmopaaDoorWLast
import Derived.Test.YticjkfacdmmopaaDoorWMore
import Derived.Shelf.Abstract
import Derived.Deep.MidRow
import Derived.ProofKit
import Derived.OpenShut
import Derived.Below
import Derived.SizedLaws
import Derived.ShutString
import Derived.Lib.LaidTab
import Derived.Lib.ItoaMem
namespace Go.Proofs.YticjkfacdmmopaaDoor.Ext
open Go.RowKit Go.Proofs.YticjkfacdmmopaaDoorW.PrintWords Go.Proofs.YticjkfacdmmopaaDoorW.PrintLast Go.Proofs.YticjkfacdmmopaaDoorW.PrintMore
set_option linter.unusedVariables false
set_option linter.unusedSimpArgs false
theorem hid {p : Prop} (h : p) : Hid p := h
def inB (a b c : Int) : Bool := decide (b ≤ a) && decide (a ≤ c)
theorem inB_iff {a b c : Int} : inB a b c = true ↔ b ≤ a ∧ a ≤ c := by simp [inB]
set_option maxHeartbeats 400000 in
theorem within_calls (a b c : Int) (w : World) :
  Calls Tryd.prog 85 #[.int .i64 a, .int .i64 b, .int .i64 c] w fun e w' => e = .returned (.bool (inB a b c)) ∧ w = w' := by
 unfold inB
 by_cases h : b ≤ a
 ·have h1 : decide (b ≤ a) = true := by simpa using h
  go_enter Tryd.func85, Tryd.ntmps85
  go_wp2
  go_ret
  exact ⟨by simp [h], rfl⟩
 ·have h1 : decide (b ≤ a) = false := by simpa using h
  go_enter Tryd.func85, Tryd.ntmps85
  go_wp2
  go_ret
  exact ⟨by simp [h], rfl⟩
theorem info_i64 : (Tryd.prog.info? 2).map (fun i => (i.zero, i.size, i.bytes)) = some (some (.int .i64 0), 1, 8) := by kernel_rfl
def indL (p : Int → Bool) (n : Nat) : List Int := ((List.range n).map (fun (i : Nat) => (i : Int))).filter p
theorem indL_succ (p : Int → Bool) (n : Nat) : indL p (n + 1) = if p n then indL p n ++ [(n : Int)] else indL p n := by
 unfold indL
 rw [List.range_succ, List.map_append, List.filter_append]
 cases h : p n <;> simp [h]
theorem indL_len (p : Int → Bool) (n : Nat) : (indL p n).length ≤ n := by
 unfold indL
 refine Nat.le_trans (List.length_filter_le _ _) ?_
 simp
set_option maxHeartbeats 1000000 in
theorem indices_calls (g : Nat) (lb : Array Value) (p : Int → Bool) (eg : ∀ args w, (callFunc g args).run Tryd.prog w = .ok (.enter g args) w) (n : Nat) (w : World)
  (hn : n ≤ 1048576) (hp : ∀ (W : World) (i : Nat), i < n → Below w.heap.size w W → Calls Tryd.prog g (#[.int .i64 i] ++ lb) W fun e w' => e = .returned (.bool (p i)) ∧ Below W.heap.size W w') :
  Calls Tryd.prog 93 #[.int .i64 n, .func (.func g) #[] lb] w fun e w' => ∃ v0_ : Value, e = .returned v0_ ∧ Kd.R (Kd.int .i64) 2 w' w.heap.size (fun _ => True) v0_ (indL p n) ∧ Below w.heap.size w w' := by
 have HB := Aside0.mk (Below.refl w.heap.size w)
 go_enter Tryd.func93, Tryd.ntmps93
 go_wp2_with (first | ((with_reducible refine gate_dst (N := 7) rfl ?_); refine Kd.R_lit (Kd.int .i64) _ 2 ?hg (N := 7) ?hd (xs := ([] : List Int)) (inner := []) (ok := fun _ => True) (okp := fun _ => True) ?hr ?hp (fun _ hk => hk) trivial (Below.refl _ _) (Nat.le_refl _) (by simp) ?_; (case hd => rfl); (case hg => rfl); (case hr => first | (go_simp; done) | (go_simp; rfl)); (case hp => exact (Reps.none _ _)); intro v115 w3 ho4 hb hg_ hnew_; clear hg_ hnew_; have HO := Aside0.mk (Kd.R_lower ho4 (below_size (by repeat (first | (with_reducible first | exact HB.out | apply bwA | apply pwN | apply bw1) | exact HB.out)))); have n1_ := Aside0.mk (below_step (by repeat (first | (with_reducible first | exact HB.out | apply bwA | apply pwN | apply bw1) | exact HB.out)) hb); clear HB; have HB := n1_; clear n1_; clear hb ho4))
 go_loopg [5, 6, 9] n (fun gg s5 _ s9 wr => ∃ k : Nat, k ≤ n ∧ n - k ≤ gg ∧ s9 = .int .i64 k ∧ Aside0 (Kd.R (Kd.int .i64) 2 wr w.heap.size (fun _ => True) s5 (indL p k)) ∧ Aside0 (Below w.heap.size w wr))
 case atStart => exact ⟨0, Nat.zero_le _, by omega, rfl, HO, HB⟩
 case round =>
  clear HO HB
  obtain ⟨k, hk, hg, rfl, HO, HB⟩ := hrel
  by_cases hlt : k < n
  ·have hltz : (k : Int) < (n : Int) := by omega
   have hcall := hp wr k hlt HB.out
   clear hp
   have HL := Aside0.mk (indL_succ p k)
   have HN := Aside0.mk (indL_len p k)
   cases hq : p k with
   | true =>
    rw [hq] at hcall
    replace HL : Aside0 (indL p (k + 1) = indL p k ++ [(k : Int)]) := ⟨by have := HL.out; rw [hq] at this; exact this⟩
    clear hq
    go_wp2_with fail
    refine hcall.mono ?_
    rintro e w1 ⟨rfl, hb1⟩
    replace HO := Aside0.mk (Kd.R_below HO.out hb1)
    replace HB := Aside0.mk (below_step HB.out hb1)
    clear hb1 hcall
    go_wp2_with (first | ((with_reducible refine gate_builtin (b := .append) (xs := #[.tmp 15, .tmp 17]) rfl ?_); at_builtin; refine Kd.R_append (Kd.int .i64) (w0 := w) w.heap.size rfl (.tmp 15) (.tmp 17) 38 2 (.int .i64 0) 8 rfl Tryd.underlying38 info_i64 rfl (by decide) (by omega) u5 (indL p k) (k : Int) [.int .i64 (k : Int)] (fun _ => True) (fun _ => False) rfl rfl ?aP (fun _ hk => hk.elim) ?aF ?aO ?aB ?aS ?aL ?_; (case aP => exact rfl); (case aB => exact (by repeat (first | (with_reducible first | exact HB.out | apply bwA | apply pwN | apply bw1) | exact HB.out))); (case aF => exact (fun _ _ => trivial)); (case aO => exact (by (with_reducible repeat (first | apply Kd.R_alloc | apply Kd.R_drewN | apply Kd.R_drew)); exact HO.out)); (case aS => exact (below_size (by repeat (first | (with_reducible first | exact HB.out | apply bwA | apply pwN | apply bw1) | exact HB.out)))); (case aL => have := HN.out; omega); intro v119 w9 ho hb hg' hat; rw [← HL.out] at ho; have n0_ := Aside0.mk (hb); have n1_ := Aside0.mk (ho); clear HB; clear HO; have HB := n0_; have HO := n1_; clear n0_ n1_; clear ho hb hg' hat))
    go_roundg (n - (k + 1))
    case measure => omega
    case rel => exact ⟨k + 1, by omega, by omega, by go_num, HO, HB⟩
   | false =>
    rw [hq] at hcall
    replace HL : Aside0 (indL p (k + 1) = indL p k) := ⟨by have := HL.out; rw [hq] at this; exact this⟩
    clear hq
    go_wp2_with fail
    refine hcall.mono ?_
    rintro e w1 ⟨rfl, hb1⟩
    replace HO := Aside0.mk (Kd.R_below HO.out hb1)
    replace HB := Aside0.mk (below_step HB.out hb1)
    clear hb1 hcall
    go_wp2_with fail
    go_roundg (n - (k + 1))
    case measure => omega
    case rel => exact ⟨k + 1, by omega, by omega, by go_num, ⟨by rw [HL.out]; exact HO.out⟩, HB⟩
  ·have hltz : ¬ (k : Int) < (n : Int) := by omega
   have : k = n := by omega
   subst this
   go_wp2
   go_ret
   exact ⟨_, rfl, HO.out, HB.out⟩
def cellsK (k : IntKind) (l : List Int) : Array Value := (nums k l).toArray
theorem cellsK_size (k : IntKind) (l : List Int) : (cellsK k l).size = l.length := by simp [cellsK, nums]
theorem cellsK_get (k : IntKind) (l : List Int) (n : Nat) (h : n < l.length) : (cellsK k l)[n]? = some (.int k (rd l n)) := by
 simp [cellsK, nums, rd, List.getD_eq_getElem?_getD, List.getElem?_eq_getElem h]
theorem cellsK_one (k : IntKind) (l : List Int) : (cellsK k l).all (·.oneCell') = true := by
 rw [Array.all_eq_true_iff_forall_mem]
 intro v hv
 simp only [cellsK, nums, List.mem_toArray, List.mem_map] at hv
 obtain ⟨x, _, rfl⟩ := hv
 rfl
theorem cellsK_set (k : IntKind) (l : List Int) (n : Nat) (x : Int) : (cellsK k l).setIfInBounds n (.int k x) = cellsK k (l.set n x) := by
 simp [cellsK, nums, List.map_set]
theorem cellsK_cell {w : World} {g : Nat} {t : TypeId} {k : IntKind} {l : List Int} (h : w.heap[g]? = some (.cells (cellsK k l) t (0, 0))) (n : Nat) (hn : n < l.length) : w.cell? ⟨g, n, none⟩ = some (.int k (rd l n)) :=
 (blk_cell h n).trans (cellsK_get k l n hn)
theorem blk_at {W : World} {n : Nat} (h : W.heap.size = n) (o : Obj) : (W.alloc o).heap[n]? = some o := by subst h; exact blk_new W o
theorem rd_mem' (l : List Int) (n : Nat) (h : n < l.length) : rd l n ∈ l := by
 have e : rd l n = l[n] := by simp [rd, List.getD_eq_getElem?_getD, List.getElem?_eq_getElem h]
 rw [e]; exact List.getElem_mem h
theorem all_snoc' (p : Int → Bool) (l : List Int) (n : Nat) (h : n < l.length) : (l.take (n + 1)).all p = ((l.take n).all p && p (rd l n)) := by
 have e : rd l n = l[n] := by simp [rd, List.getD_eq_getElem?_getD, List.getElem?_eq_getElem h]
 rw [List.take_succ_eq_append_getElem h, List.all_append, e]; simp
theorem all_take_false (p : Int → Bool) (l : List Int) (n : Nat) (h : n < l.length) (hp : p (rd l n) = false) : l.all p = false := by
 rw [Bool.eq_false_iff]
 intro ha
 have := List.all_eq_true.1 ha _ (rd_mem' l n h)
 rw [hp] at this; cases this
def copied (l : List Int) (n : Nat) : List Int := l.take n ++ List.replicate (l.length - n) 0
theorem copied_len (l : List Int) (n : Nat) (h : n ≤ l.length) : (copied l n).length = l.length := by simp [copied]; omega
theorem copied_succ (l : List Int) (n : Nat) (h : n < l.length) : (copied l n).set n (rd l n) = copied l (n + 1) := by
 have e : rd l n = l[n] := by simp [rd, List.getD_eq_getElem?_getD, List.getElem?_eq_getElem h]
 unfold copied
 rw [List.set_append_right _ _ (by simp <;> omega), List.take_succ_eq_append_getElem h, e, List.append_assoc]
 congr 1
 obtain ⟨m, hm⟩ : ∃ m, l.length - n = m + 1 := ⟨l.length - n - 1, by omega⟩
 rw [hm, show l.length - (n + 1) = m by omega, List.replicate_succ]
 simp [show n - min n l.length = 0 by omega]
theorem copied_full (l : List Int) : copied l l.length = l := by simp [copied]
theorem copied_zero (l : List Int) : copied l 0 = List.replicate l.length 0 := by simp [copied]
section
variable {P : Program} {ops : Array Oper} {rest : List Oper} {o : Oper} {a : Act} {Q : Exit → Act → World → Prop} {W : World}
theorem ev_store_row (hgd : o.guard = none) (ty : TypeId) (x y : Operand) (ho : o.op = .store ty x y) (hN : o.dst = none)
  (g : Nat) (cells : Array Value) (hx : a.eval x = .pointer (some ⟨g, 0, none⟩)) (hy : a.eval y = .agg cells)
  (t : TypeId) (old : Array Value) (hg : W.heap[g]? = some (.cells old t (0, 0))) (hi : (P.info? ty).map (·.size) = some cells.size)
  (hold : old.size = cells.size) (h1 : cells.all (·.oneCell') = true)
  (h : ∀ w1, w1.heap[g]? = some (.cells cells t (0, 0)) → Kept W w1 (fun k => k = g) → (∀ B, B ≤ g → Below B W w1) → wpList P ops Q rest a w1) : wpList P ops Q (o :: rest) a W := by
 refine wpList_store_row hgd ty x y ho g cells hx hy t old hg hi hold h1 ?_
 rw [hN]
 refine h _ (setRow_heap W g old cells t (0, 0) hg) ⟨by simp, fun i hi hn => setRow_other W g i cells hn⟩ (fun B hB => ⟨rfl, rfl, rfl, by simp, fun k hk => setRow_other W g k cells (by omega)⟩)
end
theorem info_laws_toInt8A26 : (Tryd.prog.info? 23).map (·.size) = some 26 := by kernel_rfl
set_option maxHeartbeats 1000000 in
theorem laws_toInt8A26_calls (l : List Int) (hl : l.length = 26) (w : World) :
  Calls Tryd.prog 66 #[.agg (cellsK .i8 l)] w fun e w' => e = .returned (.agg (cellsK .i8 l)) ∧ Below w.heap.size w w' := by
 have HZ : Aside0 (cellsK .i8 (copied l 0) = cellsK .i8 (List.replicate 26 0)) := ⟨by rw [copied_zero, hl]⟩
 have HZ2 : Aside0 (cellsK .i8 (List.replicate 26 0) = #[.int .i8 0, .int .i8 0, .int .i8 0, .int .i8 0, .int .i8 0, .int .i8 0, .int .i8 0, .int .i8 0, .int .i8 0, .int .i8 0, .int .i8 0, .int .i8 0, .int .i8 0, .int .i8 0, .int .i8 0, .int .i8 0, .int .i8 0, .int .i8 0, .int .i8 0, .int .i8 0, .int .i8 0, .int .i8 0, .int .i8 0, .int .i8 0, .int .i8 0, .int .i8 0]) := ⟨rfl⟩
 obtain ⟨X, hX⟩ : ∃ X, X = cellsK .i8 l := ⟨_, rfl⟩
 rw [← hX]
 have HX := Aside0.mk hX
 clear hX
 go_enter Tryd.func66, Tryd.ntmps66
 go_wp2
 go_loopw [4] (fun i wr => ∃ n : Nat, n ≤ 26 ∧ i = .int .i64 n ∧ Aside0 (wr.heap[w.heap.size]? = some (.cells X 23 (0, 0))) ∧ Aside0 (∃ cs, cs.size = 26 ∧ wr.heap[w.heap.size + 1]? = some (.cells cs 23 (0, 0))) ∧ Aside0 (wr.heap[w.heap.size + 2]? = some (.cells (cellsK .i8 (copied l n)) 23 (0, 0))) ∧ Aside0 (Below w.heap.size w wr)) (fun i _ => 26 - (intOf i).toNat)
 case atStart => 
  refine ⟨0, by omega, rfl, ⟨?_⟩, ⟨cellsK .i8 (List.replicate 26 0), ?_, ?_⟩, ⟨?_⟩, ⟨?_⟩⟩
  ·exact blk_alloc (blk_alloc (blk_new w _) _) _
  ·rw [cellsK_size]; simp
  ·rw [HZ2.out]
   exact blk_alloc (blk_at (by simp) _) _
  ·rw [HZ.out, HZ2.out]
   exact blk_at (by simp) _
  ·exact (((Below.refl _ _).alloc (Nat.le_refl _) _).alloc (by simp) _).alloc (by simp <;> omega) _
 case round =>
  obtain ⟨n, hn, rfl, H0, H1, H2, HB⟩ := hrel
  clear HZ HZ2
  by_cases hlt : n < 26
  ·have hltz : (n : Int) < 26 := by omega
   have hc : wr.cell? ⟨w.heap.size, n, none⟩ = some (.int .i8 (rd l n)) := cellsK_cell (k := .i8) (l := l) (by rw [← HX.out]; exact H0.out) n (by omega)
   have hc2 : wr.cell? ⟨w.heap.size + 2, n, none⟩ = some (.int .i8 (rd (copied l n) n)) := cellsK_cell H2.out n (by rw [copied_len _ _ (by omega)]; omega)
   have hf2 : wr.frozen? ⟨w.heap.size + 2, n, none⟩ = false := blk_frozen H2.out n
   have hl' := hid hl
   clear hl
   generalize hy : rd l n = y at hc
   have HY := Aside0.mk hy
   clear hy
   go_wp2
   go_roundw
   case rel =>
    refine ⟨n + 1, by omega, by go_num, ⟨?_⟩, ⟨?_⟩, ⟨?_⟩, ⟨?_⟩⟩
    ·exact blk_far H0.out (by simp <;> omega) _
    ·obtain ⟨cs, h1, h2⟩ := H1.out
     exact ⟨cs, h1, blk_far h2 (by simp <;> omega) _⟩
    ·have := blk_set H2.out n (.int .i8 y)
     rw [cellsK_set, ← HY.out, copied_succ l n (by rw [hl'.out]; omega)] at this
     rw [← HY.out]
     exact this
    ·exact HB.out.setCell (by simp <;> omega) _
   case measure => simp [intOf]; omega
  ·have hltz : ¬ (n : Int) < 26 := by omega
   obtain rfl : n = 26 := by omega
   have hcop : copied l 26 = l := by rw [← hl]; exact copied_full l
   rw [hcop, ← HX.out] at H2
   have hs : X.size = 26 := by rw [HX.out, cellsK_size, hl]
   have hone : X.all (·.oneCell') = true := by rw [HX.out]; exact cellsK_one _ _
   have hl' := hid hl
   have hs' := hid hs
   have hone' := hid hone
   obtain ⟨cs, hcs, H1⟩ := H1.out
   have H1 := Aside0.mk H1
   have hcs' := hid hcs
   clear hl hcop hs hone hcs
   go_wp2_with (first | ((with_reducible refine gate_dst (N := 14) rfl ?_); refine wpList_load_row rfl 23 (.tmp 3) rfl (w.heap.size + 2) rfl _ _ _ _ H2.out Tryd.underlying23 rfl (by rw [hs'.out]; exact info_laws_toInt8A26) ?_) | ((with_reducible refine gate_store (t := 23) (p := 2) rfl ?_); refine ev_store_row rfl 23 (.tmp 2) (.tmp 14) rfl rfl (w.heap.size + 1) X rfl rfl _ cs H1.out (by rw [hs'.out]; exact info_laws_toInt8A26) (by rw [hs'.out, hcs'.out]) hone'.out ?_; intro w1 hb1 hk1 hbel))
   refine bodyPost_ret (results_cell_row rfl _ _ (w.heap.size + 1) _ X (0, 0) _ rfl hb1 Tryd.underlying23 rfl (by rw [hs'.out]; exact info_laws_toInt8A26)) rfl ⟨rfl, ?_⟩
   exact HB.out.trans (hbel _ (by omega))
end Go.Proofs.YticjkfacdmmopaaDoor.Ext
namespace Go.Proofs.YticjkfacdmmopaaDoor.Open
open Go.ChangeShapes Go.WideShapes Go.ChangeAt Go.RowKit Go.Proofs.YticjkfacdmmopaaDoor.Ext Go.Proofs.YticjkfacdmmopaaDoorW.PrintWords
set_option linter.unusedVariables false
set_option linter.unusedSimpArgs false
variable {H : Type} {enc : TypeId × Value → H} {P : Program} {w : World} {spare : Nat → Bool} {held : Bool} {t : TypeId}
theorem arr_list {k : IntKind} {n : Nat} {e : TypeId} {fuel : Nat} {cs : List Value} {x : DataW H × List MemPlace} (ht : P.underlying t = some (.array n e)) (he : P.underlying e = some (.int k)) (hc : P.cellsOf e = 1) (hn : P.cellsOf t = n)
  (h : DataW.trod enc P w 0 spare held fuel t cs = some x) : ∃ l : List Int, cs = nums k l ∧ l.length = n ∧ ∀ y ∈ l, (Lit.int k y).wf = true := by
 obtain ⟨xs, m, _, _, hl, hxs, hi⟩ := DataW.trod_array ht h
 rw [hn] at hl
 have each : ∀ i, i < n → ∃ y, cs[i]? = some (.int k y) ∧ (Lit.int k y).wf = true := by
  intro i hi'
  have h2 := hi i hi'
  rw [hc, Nat.mul_one] at h2
  obtain ⟨z, hz⟩ : ∃ z, xs[i]? = some z := ⟨xs[i]'(by omega), List.getElem?_eq_getElem (by omega)⟩
  rw [hz] at h2
  obtain ⟨y, hy, _, hw⟩ := DataW.trod_int he h2
  refine ⟨y, ?_, hw⟩
  have := congrArg (fun l => l[0]?) hy
  simpa [List.getElem?_take, List.getElem?_drop] using this
 refine ⟨cs.map fun v => (intOf v), ?_, by simpa using hl, ?_⟩
 ·apply List.ext_getElem?
  intro i
  by_cases hi' : i < n
  ·obtain ⟨y, hy, _⟩ := each i hi'
   simp [nums, hy, intOf]
  ·rw [List.getElem?_eq_none (by omega), List.getElem?_eq_none (by simp [nums]; omega)]
 ·intro y hy
  rw [List.mem_map] at hy
  obtain ⟨v, hv, rfl⟩ := hy
  obtain ⟨i, hi', rfl⟩ := List.mem_iff_getElem.1 hv
  obtain ⟨y, hy, hw⟩ := each i (by omega)
  rw [List.getElem?_eq_getElem hi'] at hy
  injection hy with hy
  rw [hy]; exact hw
theorem wf_i8 {y : Int} (h : (Lit.int .i8 y).wf = true) : -128 ≤ y ∧ y ≤ 127 := by simpa [Lit.wf, IntKind.min, IntKind.max, IntKind.signed, IntKind.bits] using h
theorem wf_u8 {y : Int} (h : (Lit.int .u8 y).wf = true) : 0 ≤ y ∧ y ≤ 255 := by simpa [Lit.wf, IntKind.min, IntKind.max, IntKind.signed, IntKind.bits] using h
end Go.Proofs.YticjkfacdmmopaaDoor.Open
namespace Go.Proofs.YticjkfacdmmopaaDoor.Ext
open Go.RowKit Go.Proofs.YticjkfacdmmopaaDoorW.PrintWords Go.Proofs.YticjkfacdmmopaaDoorW.PrintLast Go.Proofs.YticjkfacdmmopaaDoorW.PrintMore
set_option linter.unusedVariables false
set_option linter.unusedSimpArgs false
structure GlobM (w : World) : Prop where
 m : ∃ m, w.cell? ⟨0, 0, none⟩ = some (.int .i64 m)
theorem cell_below {w w1 : World} (hb : Below w.heap.size w w1) {g : Nat} {v : Value} (hc : w.cell? ⟨g, 0, none⟩ = some v) : w1.cell? ⟨g, 0, none⟩ = some v :=
 (hb.cell (World.block_lt_of_cell? w _ hc)).trans hc
theorem GlobM.below {w w1 : World} (h : GlobM w) (hb : Below w.heap.size w w1) : GlobM w1 := by
 obtain ⟨m, hm⟩ := h.m
 exact ⟨⟨m, cell_below hb hm⟩⟩
end Go.Proofs.YticjkfacdmmopaaDoor.Ext
