/- Contracts and plain laws of functions of the given program; no conditions beside those in the theorems. -/
import Derived.WalkKit
import Derived.BigQuiet
import Derived.Deep.QuietTactic
import Derived.Test.YtlepbhlbooajmaaProg
import Derived.Test.YtlepbhlbooajmaaWWords
import Derived.Test.YtlepbhlbooajmaaWLast
import Derived.Test.YtlepbhlbooajmaaWMore
import Derived.Shelf.Abstract
import Derived.Deep.MidRow
import Derived.Laws.CopyRow
namespace Go.Proofs.Ytlepbhlbooajmaa.Ext
open Go.RowKit Go.Proofs.YtlepbhlbooajmaaW.PrintWords Go.Proofs.YtlepbhlbooajmaaW.PrintLast Go.Proofs.YtlepbhlbooajmaaW.PrintMore
set_option linter.unusedVariables false
set_option linter.unusedSimpArgs false
theorem hid {p : Prop} (h : p) : Hid p := h
def inB (a b c : Int) : Bool := decide (b ≤ a) && decide (a ≤ c)
set_option maxHeartbeats 400000 in
theorem within_calls (a b c : Int) (w : World) :
  Calls Try.prog 32 #[.int .i64 a, .int .i64 b, .int .i64 c] w fun e w' => e = .returned (.bool (inB a b c)) ∧ w = w' := by
 unfold inB
 by_cases h : b ≤ a
 ·have h1 : decide (b ≤ a) = true := by simpa using h
  go_enter Try.func32, Try.ntmps32
  go_wp2
  go_ret
  exact ⟨by simp [h], rfl⟩
 ·have h1 : decide (b ≤ a) = false := by simpa using h
  go_enter Try.func32, Try.ntmps32
  go_wp2
  go_ret
  exact ⟨by simp [h], rfl⟩
def cellsK (k : IntKind) (l : List Int) : Array Value := (nums k l).toArray
theorem cellsK_size (k : IntKind) (l : List Int) : (cellsK k l).size = l.length := by simp [cellsK, nums]
theorem cellsK_get (k : IntKind) (l : List Int) (n : Nat) (h : n < l.length) : (cellsK k l)[n]? = some (.int k (rd l n)) := by
 simp [cellsK, nums, rd, List.getD_eq_getElem?_getD, List.getElem?_eq_getElem h]
theorem cellsK_one (k : IntKind) (l : List Int) : (cellsK k l).all (·.oneCell') = true := by
 rw [Array.all_eq_true_iff_forall_mem]
 intro v hv
 simp only [cellsK, nums, List.mem_toArray, List.mem_map] at hv
 obtain ⟨x, _, rfl⟩ := hv
 rfl
theorem cellsK_set (k : IntKind) (l : List Int) (n : Nat) (x : Int) : (cellsK k l).setIfInBounds n (.int k x) = cellsK k (l.set n x) := by
 simp [cellsK, nums, List.map_set]
theorem cellsK_cell {w : World} {g : Nat} {t : TypeId} {k : IntKind} {l : List Int} (h : w.heap[g]? = some (.cells (cellsK k l) t (0, 0))) (n : Nat) (hn : n < l.length) : w.cell? ⟨g, n, none⟩ = some (.int k (rd l n)) :=
 (blk_cell h n).trans (cellsK_get k l n hn)
theorem blk_at {W : World} {n : Nat} (h : W.heap.size = n) (o : Obj) : (W.alloc o).heap[n]? = some o := by subst h; exact blk_new W o
def copied (l : List Int) (n : Nat) : List Int := l.take n ++ List.replicate (l.length - n) 0
theorem copied_len (l : List Int) (n : Nat) (h : n ≤ l.length) : (copied l n).length = l.length := by simp [copied]; omega
theorem copied_succ (l : List Int) (n : Nat) (h : n < l.length) : (copied l n).set n (rd l n) = copied l (n + 1) := by
 have e : rd l n = l[n] := by simp [rd, List.getD_eq_getElem?_getD, List.getElem?_eq_getElem h]
 unfold copied
 rw [List.set_append_right _ _ (by simp <;> omega), List.take_succ_eq_append_getElem h, e, List.append_assoc]
 congr 1
 obtain ⟨m, hm⟩ : ∃ m, l.length - n = m + 1 := ⟨l.length - n - 1, by omega⟩
 rw [hm, show l.length - (n + 1) = m by omega, List.replicate_succ]
 simp [show n - min n l.length = 0 by omega]
theorem copied_full (l : List Int) : copied l l.length = l := by simp [copied]
theorem copied_zero (l : List Int) : copied l 0 = List.replicate l.length 0 := by simp [copied]
section
variable {P : Program} {ops : Array Oper} {rest : List Oper} {o : Oper} {a : Act} {Q : Exit → Act → World → Prop} {W : World}
theorem ev_store_row (hgd : o.guard = none) (ty : TypeId) (x y : Operand) (ho : o.op = .store ty x y) (hN : o.dst = none)
  (g : Nat) (cells : Array Value) (hx : a.eval x = .pointer (some ⟨g, 0, none⟩)) (hy : a.eval y = .agg cells)
  (t : TypeId) (old : Array Value) (hg : W.heap[g]? = some (.cells old t (0, 0))) (hi : (P.info? ty).map (·.size) = some cells.size)
  (hold : old.size = cells.size) (h1 : cells.all (·.oneCell') = true)
  (h : ∀ w1, w1.heap[g]? = some (.cells cells t (0, 0)) → Kept W w1 (fun k => k = g) → (∀ B, B ≤ g → Below B W w1) → wpList P ops Q rest a w1) : wpList P ops Q (o :: rest) a W := by
 refine wpList_store_row hgd ty x y ho g cells hx hy t old hg hi hold h1 ?_
 rw [hN]
 refine h _ (setRow_heap W g old cells t (0, 0) hg) ⟨by simp, fun i hi hn => setRow_other W g i cells hn⟩ (fun B hB => ⟨rfl, rfl, rfl, by simp, fun k hk => setRow_other W g k cells (by omega)⟩)
end
open Go.RowKit Go.Proofs.YtlepbhlbooajmaaW.PrintWords Go.Proofs.YtlepbhlbooajmaaW.PrintLast Go.Proofs.YtlepbhlbooajmaaW.PrintMore
set_option linter.unusedVariables false
set_option linter.unusedSimpArgs false
theorem info_laws_toByteA2 : (Try.prog.info? 104).map (·.size) = some 2 := by kernel_rfl
set_option maxHeartbeats 1000000 in
theorem laws_toByteA2_calls (l : List Int) (hl : l.length = 2) (w : World) :
  Calls Try.prog 58 #[.agg (cellsK .u8 l)] w fun e w' => e = .returned (.agg (cellsK .u8 l)) ∧ Below w.heap.size w w' := by
 have HZ : Aside0 (cellsK .u8 (copied l 0) = cellsK .u8 (List.replicate 2 0)) := ⟨by rw [copied_zero, hl]⟩
 have HZ2 : Aside0 (cellsK .u8 (List.replicate 2 0) = #[.int .u8 0, .int .u8 0]) := ⟨rfl⟩
 obtain ⟨X, hX⟩ : ∃ X, X = cellsK .u8 l := ⟨_, rfl⟩
 rw [← hX]
 have HX := Aside0.mk hX
 clear hX
 go_enter Try.func58, Try.ntmps58
 go_wp2
 go_loopw [4] (fun i wr => ∃ n : Nat, n ≤ 2 ∧ i = .int .i64 n ∧ Aside0 (wr.heap[w.heap.size]? = some (.cells X 104 (0, 0))) ∧ Aside0 (∃ cs, cs.size = 2 ∧ wr.heap[w.heap.size + 1]? = some (.cells cs 104 (0, 0))) ∧ Aside0 (wr.heap[w.heap.size + 2]? = some (.cells (cellsK .u8 (copied l n)) 104 (0, 0))) ∧ Aside0 (Below w.heap.size w wr)) (fun i _ => 2 - (intOf i).toNat)
 case atStart => 
  refine ⟨0, by omega, rfl, ⟨?_⟩, ⟨cellsK .u8 (List.replicate 2 0), ?_, ?_⟩, ⟨?_⟩, ⟨?_⟩⟩
  ·exact blk_alloc (blk_alloc (blk_new w _) _) _
  ·rw [cellsK_size]; simp
  ·rw [HZ2.out]
   exact blk_alloc (blk_at (by simp) _) _
  ·rw [HZ.out, HZ2.out]
   exact blk_at (by simp) _
  ·exact (((Below.refl _ _).alloc (Nat.le_refl _) _).alloc (by simp) _).alloc (by simp <;> omega) _
 case round =>
  obtain ⟨n, hn, rfl, H0, H1, H2, HB⟩ := hrel
  clear HZ HZ2
  by_cases hlt : n < 2
  ·have hltz : (n : Int) < 2 := by omega
   have hc : wr.cell? ⟨w.heap.size, n, none⟩ = some (.int .u8 (rd l n)) := cellsK_cell (k := .u8) (l := l) (by rw [← HX.out]; exact H0.out) n (by omega)
   have hc2 : wr.cell? ⟨w.heap.size + 2, n, none⟩ = some (.int .u8 (rd (copied l n) n)) := cellsK_cell H2.out n (by rw [copied_len _ _ (by omega)]; omega)
   have hf2 : wr.frozen? ⟨w.heap.size + 2, n, none⟩ = false := blk_frozen H2.out n
   have hl' := hid hl
   clear hl
   generalize hy : rd l n = y at hc
   have HY := Aside0.mk hy
   clear hy
   go_wp2
   go_roundw
   case rel =>
    refine ⟨n + 1, by omega, by go_num, ⟨?_⟩, ⟨?_⟩, ⟨?_⟩, ⟨?_⟩⟩
    ·exact blk_far H0.out (by simp <;> omega) _
    ·obtain ⟨cs, h1, h2⟩ := H1.out
     exact ⟨cs, h1, blk_far h2 (by simp <;> omega) _⟩
    ·have := blk_set H2.out n (.int .u8 y)
     rw [cellsK_set, ← HY.out, copied_succ l n (by rw [hl'.out]; omega)] at this
     rw [← HY.out]
     exact this
    ·exact HB.out.setCell (by simp <;> omega) _
   case measure => simp [intOf]; omega
  ·have hltz : ¬ (n : Int) < 2 := by omega
   obtain rfl : n = 2 := by omega
   have hcop : copied l 2 = l := by rw [← hl]; exact copied_full l
   rw [hcop, ← HX.out] at H2
   have hs : X.size = 2 := by rw [HX.out, cellsK_size, hl]
   have hone : X.all (·.oneCell') = true := by rw [HX.out]; exact cellsK_one _ _
   have hl' := hid hl
   have hs' := hid hs
   have hone' := hid hone
   obtain ⟨cs, hcs, H1⟩ := H1.out
   have H1 := Aside0.mk H1
   have hcs' := hid hcs
   clear hl hcop hs hone hcs
   go_wp2_with (first | ((with_reducible refine gate_dst (N := 14) rfl ?_); refine wpList_load_row rfl 104 (.tmp 3) rfl (w.heap.size + 2) rfl _ _ _ _ H2.out Try.underlying104 rfl (by rw [hs'.out]; exact info_laws_toByteA2) ?_) | ((with_reducible refine gate_store (t := 104) (p := 2) rfl ?_); refine ev_store_row rfl 104 (.tmp 2) (.tmp 14) rfl rfl (w.heap.size + 1) X rfl rfl _ cs H1.out (by rw [hs'.out]; exact info_laws_toByteA2) (by rw [hs'.out, hcs'.out]) hone'.out ?_; intro w1 hb1 hk1 hbel))
   refine bodyPost_ret (results_cell_row rfl _ _ (w.heap.size + 1) _ X (0, 0) _ rfl hb1 Try.underlying104 rfl (by rw [hs'.out]; exact info_laws_toByteA2)) rfl ⟨rfl, ?_⟩
   exact HB.out.trans (hbel _ (by omega))
def laws_toByteA2.f (F0 F1 : Int) : Option (Int × Int) := some (F0, F1)
theorem laws_toByteA2.calls (F0 F1 r1 r2 : Int) (w : World) (h : laws_toByteA2.f F0 F1 = some (r1, r2)) :
  Calls Try.prog 58 #[.agg #[.int .u8 F0, .int .u8 F1]] w fun e w' => e = .returned (.agg #[.int .u8 r1, .int .u8 r2]) ∧ Below w.heap.size w w' := by
 unfold laws_toByteA2.f at h
 obtain ⟨rfl, rfl⟩ := Prod.mk.inj (Option.some.inj h)
 exact laws_toByteA2_calls [F0, F1] rfl w
attribute [local go_sem] max2_int min2_int max_two min_two in
theorem arrx_ (k : IntKind) (pre : List Value) (L : List Int) (post : List Value) (o : Nat) (ho : pre.length = o) (j : Int) (h0 : 0 ≤ j) (h1 : j < (L.length : Int)) :
  (pre ++ (L.map (Value.int k) ++ post)).toArray[o + j.toNat]? = some (.int k (rd L j)) := by
 obtain ⟨n, rfl⟩ := Int.eq_ofNat_of_zero_le h0
 have hn : n < L.length := by omega
 subst ho
 simp only [List.getElem?_toArray, Int.toNat_natCast, rd]
 rw [List.getElem?_append_right (by omega), Nat.add_sub_cancel_left, List.getElem?_append_left (by simpa using hn)]
 simp [List.getD_eq_getElem?_getD, List.getElem?_eq_getElem hn]
theorem arrx0_ (k : IntKind) (L : List Int) (post : List Value) (j : Int) (h0 : 0 ≤ j) (h1 : j < (L.length : Int)) :
  (L.map (Value.int k) ++ post).toArray[j.toNat]? = some (.int k (rd L j)) := by
 have h := arrx_ k [] L post 0 rfl j h0 h1
 rwa [Nat.zero_add, List.nil_append] at h
theorem u8_w_ (n : Int) : IntKind.u8.wrap n = n % 256 := by simp [IntKind.wrap, IntKind.signed, IntKind.bits]
end Go.Proofs.Ytlepbhlbooajmaa.Ext
