/- Contracts and plain laws of functions of the given program; no conditions beside those in the theorems. -/
import Derived.WalkKit
import Derived.BigQuiet
import Derived.Deep.QuietTactic
import Derived.Test.YtfnhjoemmiepiaaDoorProg
import Derived.Test.YtfnhjoemmiepiaaDoorWWords
import Derived.Test.YtfnhjoemmiepiaaDoorWLast
import Derived.Test.YtfnhjoemmiepiaaDoorWMore
import Derived.Shelf.Abstract
import Derived.Deep.MidRow
import Derived.Lib.LaidTab
import Derived.Lib.ItoaMem
namespace Go.Proofs.YtfnhjoemmiepiaaDoor.Ext
open Go.RowKit Go.Proofs.YtfnhjoemmiepiaaDoorW.PrintWords Go.Proofs.YtfnhjoemmiepiaaDoorW.PrintLast Go.Proofs.YtfnhjoemmiepiaaDoorW.PrintMore
set_option linter.unusedVariables false
set_option linter.unusedSimpArgs false
theorem hid {p : Prop} (h : p) : Hid p := h
def inB (a b c : Int) : Bool := decide (b ≤ a) && decide (a ≤ c)
theorem inB_iff {a b c : Int} : inB a b c = true ↔ b ≤ a ∧ a ≤ c := by simp [inB]
set_option maxHeartbeats 400000 in
theorem within_calls (a b c : Int) (w : World) :
    Calls Tryd.prog 51 #[.int .i64 a, .int .i64 b, .int .i64 c] w fun e w' => e = .returned (.bool (inB a b c)) ∧ w = w' := by
  unfold inB
  by_cases h : b ≤ a
  · have h1 : decide (b ≤ a) = true := by simpa using h
    go_enter Tryd.func51, Tryd.ntmps51
    go_wp2
    go_ret
    exact ⟨by simp [h], rfl⟩
  · have h1 : decide (b ≤ a) = false := by simpa using h
    go_enter Tryd.func51, Tryd.ntmps51
    go_wp2
    go_ret
    exact ⟨by simp [h], rfl⟩
def idxI (p : Int → Bool) : List Int → Int
  | [] => -1
  | x :: xs => if p x then 0 else if idxI p xs < 0 then -1 else idxI p xs + 1
theorem idxI_lo (p : Int → Bool) (l : List Int) : -1 ≤ idxI p l ∧ idxI p l < l.length := by
  induction l with
  | nil => simp [idxI]
  | cons x xs ih => simp only [idxI, List.length_cons]; split <;> (try split) <;> omega
theorem idxI_any_iff (p : Int → Bool) (l : List Int) : 0 ≤ idxI p l ↔ l.any p = true := by
  induction l with
  | nil => simp [idxI]
  | cons x xs ih =>
    have := idxI_lo p xs
    simp only [idxI, List.any_cons, Bool.or_eq_true, ← ih]
    by_cases hx : p x = true
    · simp [hx]
    · rw [if_neg hx]
      split
      · constructor
        · intro h; omega
        · rintro (h | h)
          · exact absurd h hx
          · omega
      · constructor
        · intro h; right; omega
        · intro h; omega
theorem idxI_any (p : Int → Bool) (l : List Int) : decide (0 ≤ idxI p l) = l.any p := by
  rw [Bool.eq_iff_iff, decide_eq_true_iff]
  exact idxI_any_iff p l
theorem idxI_miss (p : Int → Bool) : ∀ (l : List Int), (∀ j, j < l.length → p (l.getD j 0) = false) → idxI p l = -1
  | [], _ => rfl
  | x :: xs, h => by
    have h0 := h 0 (by simp)
    have ih := idxI_miss p xs (fun j hj => by have := h (j + 1) (by simp; omega); simpa using this)
    simp at h0
    simp [idxI, h0, ih]
theorem idxI_hit (p : Int → Bool) : ∀ (l : List Int) (k : Nat), k < l.length → p (l.getD k 0) = true → (∀ j, j < k → p (l.getD j 0) = false) → idxI p l = k
  | [], k, hk, _, _ => by simp at hk
  | x :: xs, 0, hk, h, _ => by simp at h; simp [idxI, h]
  | x :: xs, k + 1, hk, h, hm => by
    have h0 := hm 0 (by omega)
    simp at h0
    have ih := idxI_hit p xs k (by simp at hk; omega) (by simpa using h) (fun j hj => by have := hm (j + 1) (by omega); simpa using this)
    simp [idxI, h0, ih]
    omega
theorem info_i64 : (Tryd.prog.info? 2).map (fun i => (i.zero, i.size, i.bytes)) = some (some (.int .i64 0), 1, 8) := by kernel_rfl
end Go.Proofs.YtfnhjoemmiepiaaDoor.Ext
namespace Go.Proofs.YtfnhjoemmiepiaaDoor.Pure
open Go.RowKit Go.Proofs.YtfnhjoemmiepiaaDoor.Ext Go.Proofs.YtfnhjoemmiepiaaDoorW.PrintWords Go.Proofs.YtfnhjoemmiepiaaDoorW.PrintLast Go.Proofs.YtfnhjoemmiepiaaDoorW.PrintMore
set_option linter.unusedVariables false
set_option linter.unusedSimpArgs false
theorem w64 {x : Int} (h0 : -9223372036854775808 ≤ x) (h1 : x ≤ 9223372036854775807) : wrap64 x = x := by unfold wrap64; omega
theorem wrap_succ (n : Nat) (h : n ≤ 4611686018427387904) : wrap64 ((n : Int) + 1) = ((n + 1 : Nat) : Int) := by unfold wrap64; omega
theorem drop_cons (l : List Int) (n : Nat) (h : n < l.length) : l.drop n = rd l n :: l.drop (n + 1) := by
  rw [List.drop_eq_getElem_cons h]
  congr 1
  simp [rd, List.getD_eq_getElem?_getD, List.getElem?_eq_getElem h]
theorem some_k {k d : Nat} (h : d < k) : ∃ m, k = m + 1 := ⟨k - 1, by omega⟩
end Go.Proofs.YtfnhjoemmiepiaaDoor.Pure
namespace Go.Proofs.YtfnhjoemmiepiaaDoor.Ext
open Go.RowKit Go.Proofs.YtfnhjoemmiepiaaDoorW.PrintWords Go.Proofs.YtfnhjoemmiepiaaDoorW.PrintLast Go.Proofs.YtfnhjoemmiepiaaDoorW.PrintMore
set_option linter.unusedVariables false
set_option linter.unusedSimpArgs false
def cellsK (k : IntKind) (l : List Int) : Array Value := (nums k l).toArray
theorem cellsK_size (k : IntKind) (l : List Int) : (cellsK k l).size = l.length := by simp [cellsK, nums]
theorem cellsK_get (k : IntKind) (l : List Int) (n : Nat) (h : n < l.length) : (cellsK k l)[n]? = some (.int k (rd l n)) := by
  simp [cellsK, nums, rd, List.getD_eq_getElem?_getD, List.getElem?_eq_getElem h]
theorem cellsK_one (k : IntKind) (l : List Int) : (cellsK k l).all (·.oneCell') = true := by
  rw [Array.all_eq_true_iff_forall_mem]
  intro v hv
  simp only [cellsK, nums, List.mem_toArray, List.mem_map] at hv
  obtain ⟨x, _, rfl⟩ := hv
  rfl
theorem cellsK_set (k : IntKind) (l : List Int) (n : Nat) (x : Int) : (cellsK k l).setIfInBounds n (.int k x) = cellsK k (l.set n x) := by
  simp [cellsK, nums, List.map_set]
theorem cellsK_cell {w : World} {g : Nat} {t : TypeId} {k : IntKind} {l : List Int} (h : w.heap[g]? = some (.cells (cellsK k l) t (0, 0))) (n : Nat) (hn : n < l.length) : w.cell? ⟨g, n, none⟩ = some (.int k (rd l n)) :=
  (blk_cell h n).trans (cellsK_get k l n hn)
theorem blk_at {W : World} {n : Nat} (h : W.heap.size = n) (o : Obj) : (W.alloc o).heap[n]? = some o := by subst h; exact blk_new W o
theorem rd_mem' (l : List Int) (n : Nat) (h : n < l.length) : rd l n ∈ l := by
  have e : rd l n = l[n] := by simp [rd, List.getD_eq_getElem?_getD, List.getElem?_eq_getElem h]
  rw [e]; exact List.getElem_mem h
theorem all_snoc' (p : Int → Bool) (l : List Int) (n : Nat) (h : n < l.length) : (l.take (n + 1)).all p = ((l.take n).all p && p (rd l n)) := by
  have e : rd l n = l[n] := by simp [rd, List.getD_eq_getElem?_getD, List.getElem?_eq_getElem h]
  rw [List.take_succ_eq_append_getElem h, List.all_append, e]; simp
theorem all_take_false (p : Int → Bool) (l : List Int) (n : Nat) (h : n < l.length) (hp : p (rd l n) = false) : l.all p = false := by
  rw [Bool.eq_false_iff]
  intro ha
  have := List.all_eq_true.1 ha _ (rd_mem' l n h)
  rw [hp] at this; cases this
def copied (l : List Int) (n : Nat) : List Int := l.take n ++ List.replicate (l.length - n) 0
theorem copied_len (l : List Int) (n : Nat) (h : n ≤ l.length) : (copied l n).length = l.length := by simp [copied]; omega
theorem copied_succ (l : List Int) (n : Nat) (h : n < l.length) : (copied l n).set n (rd l n) = copied l (n + 1) := by
  have e : rd l n = l[n] := by simp [rd, List.getD_eq_getElem?_getD, List.getElem?_eq_getElem h]
  unfold copied
  rw [List.set_append_right _ _ (by simp <;> omega), List.take_succ_eq_append_getElem h, e, List.append_assoc]
  congr 1
  obtain ⟨m, hm⟩ : ∃ m, l.length - n = m + 1 := ⟨l.length - n - 1, by omega⟩
  rw [hm, show l.length - (n + 1) = m by omega, List.replicate_succ]
  simp [show n - min n l.length = 0 by omega]
theorem copied_full (l : List Int) : copied l l.length = l := by simp [copied]
theorem copied_zero (l : List Int) : copied l 0 = List.replicate l.length 0 := by simp [copied]
section
variable {P : Program} {ops : Array Oper} {rest : List Oper} {o : Oper} {a : Act} {Q : Exit → Act → World → Prop} {W : World}
theorem ev_store_row (hgd : o.guard = none) (ty : TypeId) (x y : Operand) (ho : o.op = .store ty x y) (hN : o.dst = none)
    (g : Nat) (cells : Array Value) (hx : a.eval x = .pointer (some ⟨g, 0, none⟩)) (hy : a.eval y = .agg cells)
    (t : TypeId) (old : Array Value) (hg : W.heap[g]? = some (.cells old t (0, 0))) (hi : (P.info? ty).map (·.size) = some cells.size)
    (hold : old.size = cells.size) (h1 : cells.all (·.oneCell') = true)
    (h : ∀ w1, w1.heap[g]? = some (.cells cells t (0, 0)) → Kept W w1 (fun k => k = g) → (∀ B, B ≤ g → Below B W w1) → wpList P ops Q rest a w1) : wpList P ops Q (o :: rest) a W := by
  refine wpList_store_row hgd ty x y ho g cells hx hy t old hg hi hold h1 ?_
  rw [hN]
  refine h _ (setRow_heap W g old cells t (0, 0) hg) ⟨by simp, fun i hi hn => setRow_other W g i cells hn⟩ (fun B hB => ⟨rfl, rfl, rfl, by simp, fun k hk => setRow_other W g k cells (by omega)⟩)
end
theorem info_laws_toStrokes : (Tryd.prog.info? 29).map (·.size) = some 26 := by kernel_rfl
set_option maxHeartbeats 1000000 in
theorem laws_toStrokes_calls (l : List Int) (hl : l.length = 26) (w : World) :
    Calls Tryd.prog 8 #[.agg (cellsK .i8 l)] w fun e w' => e = .returned (.agg (cellsK .i8 l)) ∧ Below w.heap.size w w' := by
  have HZ : Aside0 (cellsK .i8 (copied l 0) = cellsK .i8 (List.replicate 26 0)) := ⟨by rw [copied_zero, hl]⟩
  have HZ2 : Aside0 (cellsK .i8 (List.replicate 26 0) = #[.int .i8 0, .int .i8 0, .int .i8 0, .int .i8 0, .int .i8 0, .int .i8 0, .int .i8 0, .int .i8 0, .int .i8 0, .int .i8 0, .int .i8 0, .int .i8 0, .int .i8 0, .int .i8 0, .int .i8 0, .int .i8 0, .int .i8 0, .int .i8 0, .int .i8 0, .int .i8 0, .int .i8 0, .int .i8 0, .int .i8 0, .int .i8 0, .int .i8 0, .int .i8 0]) := ⟨rfl⟩
  obtain ⟨X, hX⟩ : ∃ X, X = cellsK .i8 l := ⟨_, rfl⟩
  rw [← hX]
  have HX := Aside0.mk hX
  clear hX
  go_enter Tryd.func8, Tryd.ntmps8
  go_wp2
  go_loopw [4] (fun i wr => ∃ n : Nat, n ≤ 26 ∧ i = .int .i64 n ∧ Aside0 (wr.heap[w.heap.size]? = some (.cells X 23 (0, 0))) ∧ Aside0 (∃ cs, cs.size = 26 ∧ wr.heap[w.heap.size + 1]? = some (.cells cs 29 (0, 0))) ∧ Aside0 (wr.heap[w.heap.size + 2]? = some (.cells (cellsK .i8 (copied l n)) 29 (0, 0))) ∧ Aside0 (Below w.heap.size w wr)) (fun i _ => 26 - (intOf i).toNat)
  case atStart => 
    refine ⟨0, by omega, rfl, ⟨?_⟩, ⟨cellsK .i8 (List.replicate 26 0), ?_, ?_⟩, ⟨?_⟩, ⟨?_⟩⟩
    · exact blk_alloc (blk_alloc (blk_new w _) _) _
    · rw [cellsK_size]; simp
    · rw [HZ2.out]
      exact blk_alloc (blk_at (by simp) _) _
    · rw [HZ.out, HZ2.out]
      exact blk_at (by simp) _
    · exact (((Below.refl _ _).alloc (Nat.le_refl _) _).alloc (by simp) _).alloc (by simp <;> omega) _
  case round =>
    obtain ⟨n, hn, rfl, H0, H1, H2, HB⟩ := hrel
    clear HZ HZ2
    by_cases hlt : n < 26
    · have hltz : (n : Int) < 26 := by omega
      have hc : wr.cell? ⟨w.heap.size, n, none⟩ = some (.int .i8 (rd l n)) := cellsK_cell (k := .i8) (l := l) (by rw [← HX.out]; exact H0.out) n (by omega)
      have hc2 : wr.cell? ⟨w.heap.size + 2, n, none⟩ = some (.int .i8 (rd (copied l n) n)) := cellsK_cell H2.out n (by rw [copied_len _ _ (by omega)]; omega)
      have hf2 : wr.frozen? ⟨w.heap.size + 2, n, none⟩ = false := blk_frozen H2.out n
      have hl' := hid hl
      clear hl
      generalize hy : rd l n = y at hc
      have HY := Aside0.mk hy
      clear hy
      go_wp2
      go_roundw
      case rel =>
        refine ⟨n + 1, by omega, by go_num, ⟨?_⟩, ⟨?_⟩, ⟨?_⟩, ⟨?_⟩⟩
        · exact blk_far H0.out (by simp <;> omega) _
        · obtain ⟨cs, h1, h2⟩ := H1.out
          exact ⟨cs, h1, blk_far h2 (by simp <;> omega) _⟩
        · have := blk_set H2.out n (.int .i8 y)
          rw [cellsK_set, ← HY.out, copied_succ l n (by rw [hl'.out]; omega)] at this
          rw [← HY.out]
          exact this
        · exact HB.out.setCell (by simp <;> omega) _
      case measure => simp [intOf]; omega
    · have hltz : ¬ (n : Int) < 26 := by omega
      obtain rfl : n = 26 := by omega
      have hcop : copied l 26 = l := by rw [← hl]; exact copied_full l
      rw [hcop, ← HX.out] at H2
      have hs : X.size = 26 := by rw [HX.out, cellsK_size, hl]
      have hone : X.all (·.oneCell') = true := by rw [HX.out]; exact cellsK_one _ _
      have hl' := hid hl
      have hs' := hid hs
      have hone' := hid hone
      obtain ⟨cs, hcs, H1⟩ := H1.out
      have H1 := Aside0.mk H1
      have hcs' := hid hcs
      clear hl hcop hs hone hcs
      go_wp2_with (first | ((with_reducible refine gate_dst (N := 14) rfl ?_); refine wpList_load_row rfl 29 (.tmp 3) rfl (w.heap.size + 2) rfl _ _ _ _ H2.out Tryd.underlying29 rfl (by rw [hs'.out]; exact info_laws_toStrokes) ?_) | ((with_reducible refine gate_store (t := 29) (p := 2) rfl ?_); refine ev_store_row rfl 29 (.tmp 2) (.tmp 14) rfl rfl (w.heap.size + 1) X rfl rfl _ cs H1.out (by rw [hs'.out]; exact info_laws_toStrokes) (by rw [hs'.out, hcs'.out]) hone'.out ?_; intro w1 hb1 hk1 hbel))
      refine bodyPost_ret (results_cell_row rfl _ _ (w.heap.size + 1) _ X (0, 0) _ rfl hb1 Tryd.underlying29 rfl (by rw [hs'.out]; exact info_laws_toStrokes)) rfl ⟨rfl, ?_⟩
      exact HB.out.trans (hbel _ (by omega))
open Go.RowKit Go.Proofs.YtfnhjoemmiepiaaDoorW.PrintWords Go.Proofs.YtfnhjoemmiepiaaDoorW.PrintLast Go.Proofs.YtfnhjoemmiepiaaDoorW.PrintMore
set_option linter.unusedVariables false
set_option linter.unusedSimpArgs false
def Predi8 (g : Nat) (lb : Array Value) (p : Int → Bool) (w : World) : Prop :=
  ∀ (W : World) (x : Int), Below w.heap.size w W → Calls Tryd.prog g (#[.int .i8 x] ++ lb) W fun e w' => e = .returned (.bool (p x)) ∧ Below w.heap.size w w'
set_option maxHeartbeats 1000000 in
theorem indexFunc_i8 (g : Nat) (lb : Array Value) (p : Int → Bool) (eg : ∀ args w, (callFunc g args).run Tryd.prog w = .ok (.enter g args) w) (A : Option Addr) (c : Nat) (l : List Int) (w : World)
    (hp : Predi8 g lb p w) (hr : Kd.C (Kd.int .i8) w A l.length l) :
    Calls Tryd.prog 60 #[.slice A l.length c, .func (.func g) #[] lb] w fun e w' => e = .returned (.int .i64 (idxI p l)) ∧ Below w.heap.size w w' := by
  have HR := Aside0.mk hr
  have hbig : l.length ≤ 9223372036854775807 := hr.2.1
  clear hr
  go_enter Tryd.func60, Tryd.ntmps60
  go_wp2
  go_loopg [5, 8] l.length (fun gg _ s8 wr => ∃ kk : Nat, kk ≤ l.length ∧ l.length - kk ≤ gg ∧ s8 = .int .i64 kk ∧ Aside0 (Below w.heap.size w wr) ∧ Aside0 (∀ j, j < kk → p (l.getD j 0) = false))
  case atStart => exact ⟨0, Nat.zero_le _, by omega, rfl, ⟨Below.refl _ w⟩, ⟨fun j hj => absurd hj (Nat.not_lt_zero _)⟩⟩
  case round =>
    obtain ⟨kk, hkk, hg, rfl, BW, A1⟩ := hrel
    by_cases hlt : kk < l.length
    · have hltz : (kk : Int) < (l.length : Int) := by omega
      obtain ⟨ad, rfl, hc0⟩ := Kd.at_int HR.out kk (by omega) (by omega)
      rw [Int.toNat_natCast] at hc0
      have hc := (BW.out.cell (World.block_lt_of_cell? w _ hc0)).trans hc0
      have hcall := hp wr (rd l kk) BW.out
      clear hc0 hp
      generalize hy : rd l kk = y at hc hcall
      have B := Aside0.mk hy
      clear hy
      cases hq : p y with
      | true =>
        rw [hq] at hcall
        go_wp2_with fail
        refine hcall.mono ?_
        rintro e w' ⟨rfl, hb'⟩
        go_wp2_with fail
        go_ret
        refine ⟨?_, hb'⟩
        rw [idxI_hit p l kk hlt (by have := B.out; unfold rd at this; simp only [Int.toNat_natCast] at this; rw [this]; exact hq) A1.out]
        rfl
      | false =>
        rw [hq] at hcall
        go_wp2_with fail
        refine hcall.mono ?_
        rintro e w' ⟨rfl, hb'⟩
        go_wp2_with fail
        go_roundg (l.length - (kk + 1))
        case measure => omega
        case rel =>
          refine ⟨kk + 1, by omega, by omega, by go_num, ⟨hb'⟩, ⟨fun j hj => ?_⟩⟩
          by_cases e : j = kk
          · subst e
            have := B.out; unfold rd at this; simp only [Int.toNat_natCast] at this; rw [this]; exact hq
          · exact A1.out j (by omega)
    · have hltz : ¬ (kk : Int) < (l.length : Int) := by omega
      have : kk = l.length := by omega
      subst this
      go_wp2
      go_ret
      refine ⟨?_, BW.out⟩
      rw [idxI_miss p l A1.out]
      rfl
set_option maxHeartbeats 1000000 in
theorem containsFunc_i8 (g : Nat) (lb : Array Value) (p : Int → Bool) (eg : ∀ args w, (callFunc g args).run Tryd.prog w = .ok (.enter g args) w) (A : Option Addr) (c : Nat) (l : List Int) (w : World)
    (hp : Predi8 g lb p w) (hr : Kd.C (Kd.int .i8) w A l.length l) :
    Calls Tryd.prog 49 #[.slice A l.length c, .func (.func g) #[] lb] w fun e w' => e = .returned (.bool (l.any p)) ∧ Below w.heap.size w w' := by
  rw [← idxI_any]
  go_enter Tryd.func49, Tryd.ntmps49
  go_wp2_with (go_at_call 60; refine (indexFunc_i8 g lb p eg A c l _ hp hr).mono ?_; rintro e w' ⟨rfl, hb'⟩)
  go_ret
  exact ⟨rfl, hb'⟩
theorem containsFunc_i8_n (g : Nat) (lb : Array Value) (p : Int → Bool) (eg : ∀ args w, (callFunc g args).run Tryd.prog w = .ok (.enter g args) w) (A : Option Addr) (n c : Nat) (l : List Int) (hn : l.length = n) (w : World)
    (hp : Predi8 g lb p w) (hr : Kd.C (Kd.int .i8) w A l.length l) :
    Calls Tryd.prog 49 #[.slice A n c, .func (.func g) #[] lb] w fun e w' => e = .returned (.bool (l.any p)) ∧ Below w.heap.size w w' := by
  subst hn
  exact containsFunc_i8 g lb p eg A c l w hp hr
set_option maxHeartbeats 400000 in
theorem in_calls (a b c : Int) (w : World) :
    Calls Tryd.prog 46 #[.int .i64 a, .int .i64 b, .int .i64 c] w fun e w' => e = .returned (.bool (inB a b c)) ∧ w = w' := by
  unfold inB
  by_cases h : b ≤ a
  · have h1 : decide (b ≤ a) = true := by simpa using h
    go_enter Tryd.func46, Tryd.ntmps46
    go_wp2
    go_ret
    exact ⟨by simp [h], rfl⟩
  · have h1 : decide (b ≤ a) = false := by simpa using h
    go_enter Tryd.func46, Tryd.ntmps46
    go_wp2
    go_ret
    exact ⟨by simp [h], rfl⟩
def strokesB (l : List Int) : Bool := l.all fun n => inB n 1 30
set_option maxHeartbeats 1000000 in
theorem l05Strokes_calls (g : Nat) (l : List Int) (hl : l.length = 26) (hw : ∀ y ∈ l, -128 ≤ y ∧ y ≤ 127) (w : World) (hb : w.heap[g]? = some (.cells (cellsK .i8 l) 29 (0, 0))) :
    Calls Tryd.prog 29 #[.pointer (some ⟨g, 0, none⟩)] w fun e w' => e = .returned (.bool (strokesB l)) ∧ w = w' := by
  have HB := Aside0.mk hb
  have HL := Aside0.mk hl
  clear hb hl
  go_enter Tryd.func29, Tryd.ntmps29
  go_wp2
  go_loop [3] (fun i => ∃ n : Nat, n ≤ 26 ∧ i = .int .i64 n ∧ Aside0 ((l.take n).all (fun n => inB n 1 30) = true)) (fun i => 26 - (intOf i).toNat)
  case atStart => exact ⟨0, by omega, rfl, ⟨by simp⟩⟩
  case round =>
    obtain ⟨n, hn, rfl, HA⟩ := hrel
    by_cases hlt : n < 26
    · have hltz : (n : Int) < 26 := by omega
      have hc : w.cell? ⟨g, n, none⟩ = some (.int .i8 (rd l n)) := cellsK_cell HB.out n (by have := HL.out; omega)
      have hbd := hw _ (rd_mem' l n (by have := HL.out; omega))
      have HS := Aside0.mk (all_snoc' (fun n => inB n 1 30) l n (by have := HL.out; omega))
      have HF := Aside0.mk (all_take_false (fun n => inB n 1 30) l n (by have := HL.out; omega))
      obtain ⟨hb1, hb2⟩ := hbd
      generalize rd l n = y at hc hb1 hb2 HS HF
      go_wp2_with fail
      refine (in_calls _ _ _ _).mono ?_
      rintro e w' ⟨rfl, rfl⟩
      cases hy : inB y 1 30
      · have HY := Aside0.mk hy
        clear hy
        go_wp2_with fail
        go_ret
        exact ⟨by unfold strokesB; rw [HF.out HY.out]; rfl, rfl⟩
      · have HY := Aside0.mk hy
        clear hy
        go_wp2_with fail
        go_round
        case rel => exact ⟨n + 1, by omega, by go_num, ⟨by rw [HS.out, HA.out, HY.out]; rfl⟩⟩
        case measure => simp [intOf]; omega
    · have hltz : ¬ (n : Int) < 26 := by omega
      obtain rfl : n = 26 := by omega
      go_wp2
      go_ret
      have e : strokesB l = true := by
        have := HA.out
        rwa [List.take_of_length_le (by have := HL.out; omega)] at this
      exact ⟨by rw [e]; rfl, rfl⟩
theorem reads_of_block {k : IntKind} {g : Nat} {t : TypeId} {l : List Int} {w : World} (hl : l.length ≤ 9223372036854775807) (hb : w.heap[g]? = some (.cells (cellsK k l) t (0, 0))) : Kd.C (Kd.int k) w (some ⟨g, 0, none⟩) l.length l := by
  refine Kd.C_of_reads (enc := Value.int k) (d := (0 : Int)) (h1 := fun _ => rfl) ⟨rfl, hl, fun hp => ⟨_, rfl, fun j hj => ?_⟩⟩
  have := cellsK_cell hb j hj
  rw [add_plain]
  rw [this]
  simp [rd]
theorem pred_ValidStrokes (w : World) : Predi8 50 #[] (fun n => !inB (wrap64 n) 1 30) w := by
  intro W x hb
  go_enter Tryd.func50, Tryd.ntmps50
  go_wp2_with fail
  refine (within_calls _ _ _ _).mono ?_
  rintro e w' ⟨rfl, rfl⟩
  go_wp2_with fail
  go_ret
  exact ⟨rfl, hb⟩
theorem implValidStrokes_calls (l : List Int) (hl : l.length = 26) (hw : ∀ y ∈ l, -128 ≤ y ∧ y ≤ 127) (w : World) :
    Calls Tryd.prog 32 #[.agg (cellsK .i8 l)] w fun e w' => e = .returned (.bool (strokesB l)) ∧ Below w.heap.size w w' := by
  have e1 : strokesB l = !(l.any fun n => !inB (wrap64 n) 1 30) := by
    rw [Bool.eq_iff_iff]
    simp only [strokesB, List.all_eq_true, Bool.not_eq_true', List.any_eq_false, Bool.not_eq_false]
    constructor
    · intro h x hx
      have := hw x hx
      have hz : wrap64 x = x := by unfold wrap64; omega
      rw [hz]; simpa using h x hx
    · intro h x hx
      have := hw x hx
      have hz : wrap64 x = x := by unfold wrap64; omega
      have := h x hx
      rw [hz] at this; simpa using this
  go_enter Tryd.func32, Tryd.ntmps32
  go_wp2_with fail
  have hb := blk_new w (.cells (cellsK .i8 l) 29)
  have hr := reads_of_block (by omega) hb
  refine (containsFunc_i8_n _ _ _ (enters_of Tryd.func50 (by kernel_rfl) rfl) _ 26 26 l hl _ (pred_ValidStrokes _) hr).mono ?_
  rintro e w1 ⟨rfl, hb1⟩
  rw [show (l.any fun n => !inB (wrap64 n) 1 30) = !strokesB l by rw [e1]; simp]
  clear e1 hr
  cases hB : strokesB l
  all_goals
    have HBB := Aside0.mk hB
    clear hB
    go_wp2_with fail
    go_ret
    exact ⟨by rw [HBB.out]; rfl, below_step (below_alloc (Below.refl _ _) _) hb1⟩
def chiselB (h s : Int) : Bool := inB h 30 1000 && inB s 0 100
theorem implValidChisel_calls (a b : Int) (w : World) (ha : -32768 ≤ a ∧ a ≤ 32767) (hbb : -128 ≤ b ∧ b ≤ 127) :
    Calls Tryd.prog 36 #[.agg #[.int .i16 a, .int .i8 b]] w fun e w' => e = .returned (.bool (chiselB a b)) ∧ Below w.heap.size w w' := by
  obtain ⟨ha1, ha2⟩ := ha
  obtain ⟨hb1, hb2⟩ := hbb
  unfold chiselB
  cases h : inB a 30 1000
  all_goals
    have H := Aside0.mk h
    clear h
    go_enter Tryd.func36, Tryd.ntmps36
    go_wp2_with fail
    refine (within_calls _ _ _ _).mono ?_
    rintro e w' ⟨rfl, rfl⟩
    rw [H.out]
    go_wp2_with fail
  · go_ret
    exact ⟨rfl, below_alloc (Below.refl _ _) _⟩
  · refine (within_calls _ _ _ _).mono ?_
    rintro e w' ⟨rfl, rfl⟩
    go_wp2_with fail
    go_ret
    exact ⟨by simp, below_alloc (Below.refl _ _) _⟩
structure GlobM (w : World) : Prop where
  m : ∃ m, w.cell? ⟨0, 0, none⟩ = some (.int .i64 m)
theorem cell_below {w w1 : World} (hb : Below w.heap.size w w1) {g : Nat} {v : Value} (hc : w.cell? ⟨g, 0, none⟩ = some v) : w1.cell? ⟨g, 0, none⟩ = some v :=
  (hb.cell (World.block_lt_of_cell? w _ hc)).trans hc
theorem GlobM.below {w w1 : World} (h : GlobM w) (hb : Below w.heap.size w w1) : GlobM w1 := by
  obtain ⟨m, hm⟩ := h.m
  exact ⟨⟨m, cell_below hb hm⟩⟩
end Go.Proofs.YtfnhjoemmiepiaaDoor.Ext
