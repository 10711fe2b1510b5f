/- Contracts and plain laws of functions of the given program; no conditions beside those in the theorems. -/
import Derived.Test.YtlepbhlbooajmaaC4GreatestOf
import Derived.Test.YtlepbhlbooajmaaC1GreatestOf
namespace Go.Proofs.Ytlepbhlbooajmaa.Ext
open Go.RowKit Go.Proofs.Ytlepbhlbooajmaa.Q Go.Proofs.Ytlepbhlbooajmaa.Pure Go.Proofs.YtlepbhlbooajmaaW.PrintWords Go.Proofs.YtlepbhlbooajmaaW.PrintLast Go.Proofs.YtlepbhlbooajmaaW.PrintMore
set_option linter.unusedVariables false
set_option linter.unusedSimpArgs false
structure TabAt (w : World) (gO gT m : Nat) (OV : Array Value) (G : Nat → Nat) (tab : List (List Gr)) : Prop where
 ov : w.heap[gO]? = some (.cells OV 78 (0, 0))
 sl : ∀ i, i < tab.length → OV[i]? = some (.slice (some ⟨G i, 0, none⟩) m m)
 row : ∀ i, i < tab.length → w.heap[G i]? = some (.cells (rowV (tab.getD i [])) 77 (0, 0))
 len : ∀ i, i < tab.length → (tab.getD i []).length = m
 hi : ∀ i, i < tab.length → gT < G i
 up : ∀ i j, i < j → j < tab.length → G i < G j
section
variable {w w' : World} {gO gT m : Nat} {OV : Array Value} {G : Nat → Nat} {tab : List (List Gr)}
theorem TabAt.cell (h : TabAt w gO gT m OV G tab) {i : Nat} (hi : i < tab.length) : w.cell? ⟨gO, i, none⟩ = some (.slice (some ⟨G i, 0, none⟩) m m) := (blk_cell h.ov i).trans (h.sl i hi)
theorem TabAt.frz (h : TabAt w gO gT m OV G tab) {i k : Nat} (hi : i < tab.length) : w.frozen? ⟨G i, k, none⟩ = false := blk_frozen (h.row i hi) k
theorem TabAt.rc (h : TabAt w gO gT m OV G tab) {i k : Nat} (hi : i < tab.length) (hk : k < m) : w.cell? ⟨G i, k * 2, none⟩ = some (.int .i64 ((tab.getD i []).getD k noGr).1) ∧ w.cell? ⟨G i, k * 2 + 1, none⟩ = some (.string ((tab.getD i []).getD k noGr).2) := rowV_cell (h.row i hi) k (by rw [h.len i hi]; exact hk)
theorem TabAt.mv (h : TabAt w gO gT m OV G tab) (hb : ∀ (g : Nat) (o : Obj), w.heap[g]? = some o → w'.heap[g]? = some o) : TabAt w' gO gT m OV G tab := ⟨hb _ _ h.ov, h.sl, fun i hi => hb _ _ (h.row i hi), h.len, h.hi, h.up⟩
theorem TabAt.alloc (h : TabAt w gO gT m OV G tab) (o : Obj) : TabAt (w.alloc o) gO gT m OV G tab := h.mv fun g o' hg => blk_alloc hg o
theorem TabAt.drew (h : TabAt w gO gT m OV G tab) : TabAt w.drew gO gT m OV G tab := h.mv fun g o' hg => blk_drew hg
theorem TabAt.below (h : TabAt w gO gT m OV G tab) (hb : Below w.heap.size w w') : TabAt w' gO gT m OV G tab := h.mv fun g o' hg => blk_below hg hb
theorem TabAt.set (h : TabAt w gO gT m OV G tab) (hOT : gO < gT) {p k : Nat} (hp : p < tab.length) (hk : k < m) (v : Int) (t : ByteArray) :
  TabAt ((w.setCell ⟨G p, k * 2, none⟩ (.int .i64 v)).setCell ⟨G p, k * 2 + 1, none⟩ (.string t)) gO gT m OV G (tab.set p ((tab.getD p []).set k (v, t))) := by
 have hgp := h.hi p hp
 have hl : (tab.set p ((tab.getD p []).set k (v, t))).length = tab.length := List.length_set
 have hne : ∀ i, i < tab.length → i ≠ p → G i ≠ G p := fun i hi hn => by
  rcases Nat.lt_or_gt_of_ne hn with q | q
  ·exact Nat.ne_of_lt (h.up i p q hp)
  ·exact Nat.ne_of_gt (h.up p i q hi)
 have hg : ∀ i, i < tab.length → (tab.set p ((tab.getD p []).set k (v, t))).getD i [] = if i = p then (tab.getD p []).set k (v, t) else tab.getD i [] := fun i hi => by
  rw [List.getD_eq_getElem?_getD, List.getElem?_set]
  by_cases e : i = p
  ·subst e; rw [if_pos rfl, if_pos hi, if_pos rfl]; rfl
  ·rw [if_neg (fun q => e q.symm), if_neg e, ← List.getD_eq_getElem?_getD]
 refine ⟨?_, fun i hi => h.sl i (hl ▸ hi), fun i hi => ?_, fun i hi => ?_, fun i hi => h.hi i (hl ▸ hi), fun i j hij hj => h.up i j hij (hl ▸ hj)⟩
 ·exact blk_far (p := ⟨G p, k * 2 + 1, none⟩) (blk_far (p := ⟨G p, k * 2, none⟩) h.ov (show gO ≠ G p from by omega) _) (show gO ≠ G p from by omega) _
 ·rw [hl] at hi
  rw [hg i hi]
  by_cases e : i = p
  ·subst e
   rw [if_pos rfl, ← rowV_set _ v t k (by rw [h.len i hi]; exact hk)]
   exact blk_set (blk_set (h.row i hi) _ _) _ _
  ·rw [if_neg e]
   exact blk_far (p := ⟨G p, k * 2 + 1, none⟩) (blk_far (p := ⟨G p, k * 2, none⟩) (h.row i hi) (hne i hi e) _) (hne i hi e) _
 ·rw [hl] at hi
  rw [hg i hi]
  by_cases e : i = p
  ·subst e; rw [if_pos rfl, List.length_set]; exact h.len i hi
  ·rw [if_neg e]; exact h.len i hi
theorem TabAt.push (h : TabAt w gO gT m OV G tab) (hOT : gO < gT) {gR : Nat} {row : List Gr} (hR : w.heap[gR]? = some (.cells (rowV row) 77 (0, 0))) (hl : row.length = m) (hT : gT < gR) (hu : ∀ i, i < tab.length → G i < gR) (hs : tab.length < OV.size) :
  TabAt (w.setCell ⟨gO, tab.length, none⟩ (.slice (some ⟨gR, 0, none⟩) m m)) gO gT m (OV.setIfInBounds tab.length (.slice (some ⟨gR, 0, none⟩) m m)) (fun i => if i = tab.length then gR else G i) (tab ++ [row]) := by
 have hlen : (tab ++ [row]).length = tab.length + 1 := by simp
 have hg : ∀ i, i < tab.length + 1 → (tab ++ [row]).getD i [] = if i = tab.length then row else tab.getD i [] := fun i hi => by
  rw [List.getD_eq_getElem?_getD]
  by_cases e : i = tab.length
  ·subst e; rw [if_pos rfl, List.getElem?_append_right (Nat.le_refl _)]; simp
  ·rw [if_neg e, List.getElem?_append_left (by omega), ← List.getD_eq_getElem?_getD]
 refine ⟨blk_set h.ov _ _, fun i hi => ?_, fun i hi => ?_, fun i hi => ?_, fun i hi => ?_, fun i j hij hj => ?_⟩
 ·rw [hlen] at hi
  by_cases e : i = tab.length
  ·subst e; rw [if_pos rfl, Array.getElem?_setIfInBounds_self, if_pos hs]
  ·rw [if_neg e, Array.getElem?_setIfInBounds_ne (Ne.symm e)]; exact h.sl i (by omega)
 ·rw [hlen] at hi
  rw [hg i hi]
  by_cases e : i = tab.length
  ·subst e; rw [if_pos rfl, if_pos rfl]; exact blk_far (p := ⟨gO, tab.length, none⟩) hR (show gR ≠ gO from by omega) _
  ·rw [if_neg e, if_neg e]
   have := h.hi i (by omega)
   exact blk_far (p := ⟨gO, tab.length, none⟩) (h.row i (by omega)) (show G i ≠ gO from by omega) _
 ·rw [hlen] at hi
  rw [hg i hi]
  by_cases e : i = tab.length
  ·rw [if_pos e]; exact hl
  ·rw [if_neg e]; exact h.len i (by omega)
 ·rw [hlen] at hi
  by_cases e : i = tab.length
  ·rw [if_pos e]; exact hT
  ·rw [if_neg e]; exact h.hi i (by omega)
 ·rw [hlen] at hj
  rw [if_neg (show i ≠ tab.length from by omega)]
  by_cases e : j = tab.length
  ·rw [if_pos e]; exact hu i (by omega)
  ·rw [if_neg e]; exact h.up i j hij (by omega)
end
def curG (s : Pure.Sys) (left k : Nat) : List Gr := (rowG s (tabG s left) left).take k ++ List.replicate (s.m - k) (0, ⟨#[]⟩)
theorem curG_len (s : Pure.Sys) {left k : Nat} (hk : k ≤ s.m) : (curG s left k).length = s.m := by unfold curG; rw [List.length_append, List.length_take, rowG_len, List.length_replicate]; omega
theorem curG_zero (s : Pure.Sys) (left : Nat) : curG s left 0 = List.replicate s.m (0, ⟨#[]⟩) := by unfold curG; simp
theorem curG_all (s : Pure.Sys) (left : Nat) : curG s left s.m = rowG s (tabG s left) left := by unfold curG; rw [List.take_of_length_le (by rw [rowG_len]; exact Nat.le_refl _), Nat.sub_self]; simp
theorem curG_set (s : Pure.Sys) {left k : Nat} (hk : k < s.m) : (curG s left k).set k (cellG s (tabG s left) left k) = curG s left (k + 1) := by
 have hl := rowG_len s (tabG s left) left
 have e : (rowG s (tabG s left) left)[k]? = some (cellG s (tabG s left) left k) := by unfold rowG; rw [List.getElem?_map, List.getElem?_range hk]; rfl
 have hkl : k < (rowG s (tabG s left) left).length := by omega
 unfold curG
 have h1 : ((rowG s (tabG s left) left).take k).length = k := by rw [List.length_take]; omega
 rw [List.set_append_right _ _ (by omega), h1, Nat.sub_self, show s.m - k = (s.m - (k + 1)) + 1 from by omega, List.replicate_succ, List.set_cons_zero, List.take_add_one, e, Option.toList_some, List.append_assoc]
 rfl
theorem tab_set (s : Pure.Sys) (left : Nat) (r r' : List Gr) : (tabG s left ++ [r]).set left r' = tabG s left ++ [r'] := by
 rw [List.set_append_right _ _ (by rw [tabG_len]; exact Nat.le_refl _), tabG_len, Nat.sub_self]
 rfl
theorem tab_last (s : Pure.Sys) (left : Nat) (r : List Gr) : (tabG s left ++ [r]).getD left [] = r := by
 rw [List.getD_eq_getElem?_getD, List.getElem?_append_right (by rw [tabG_len]; exact Nat.le_refl _), tabG_len, Nat.sub_self]
 rfl
theorem tab_old (s : Pure.Sys) {left i : Nat} (r : List Gr) (h : i < left) : (tabG s left ++ [r]).getD i [] = (tabG s left).getD i [] := by
 rw [List.getD_eq_getElem?_getD, List.getElem?_append_left (by rw [tabG_len]; exact h), ← List.getD_eq_getElem?_getD]
theorem tab_size (s : Pure.Sys) (left : Nat) (r : List Gr) : (tabG s left ++ [r]).length = left + 1 := by rw [List.length_append, tabG_len]; rfl
theorem TabAt.put {w : World} {gO gT : Nat} {OV : Array Value} {G : Nat → Nat} {s : Pure.Sys} {left : Nat} {r : List Gr} (h : TabAt w gO gT s.m OV G (tabG s left ++ [r])) (hOT : gO < gT) {k : Nat} (hk : k < s.m) (v : Int) (t : ByteArray) :
  TabAt ((w.setCell ⟨G left, k * 2, none⟩ (.int .i64 v)).setCell ⟨G left, k * 2 + 1, none⟩ (.string t)) gO gT s.m OV G (tabG s left ++ [r.set k (v, t)]) := by
 have := h.set hOT (p := left) (by rw [tab_size]; omega) hk v t
 rw [tab_last, tab_set] at this
 exact this
theorem pt_cells {w0 w : World} {A : Option Addr} {l : List Pt} (hr : Kd.C k81 w0 A l.length l) (hB : Below w0.heap.size w0 w) (h0 : 0 < l.length) :
  ∃ ad, A = some ad ∧ ∀ i, i < l.length → w.cell? (ad.add (i * 2)) = some (.string (rd_T81 l (i : Int)).f0) ∧ w.cell? ⟨(ad.add (i * 2)).block, (ad.add (i * 2)).off + 1, none⟩ = some (.int .i64 (rd_T81 l (i : Int)).f1) := by
 obtain ⟨ad, hA, _⟩ := at_T81 hr 0 (by omega) (by omega)
 refine ⟨ad, hA, fun i hi => ?_⟩
 obtain ⟨ad', e, h1, h2⟩ := at_T81 hr i (by omega) (by omega)
 obtain rfl : ad = ad' := Option.some.inj (hA.symm.trans e)
 rw [Int.toNat_natCast] at h1 h2
 exact ⟨cellB_ hB h1, cellB_ hB h2⟩
theorem nx_cells {w0 w : World} {A : Option Addr} {l : List (List Int)} (hr : Kd.C (Kd.slice 3 (Kd.int .i64)) w0 A l.length l) (hB : Below w0.heap.size w0 w) {i : Nat} (hi : i < l.length) :
  ∃ ad A0 c0, A = some ad ∧ w.cell? (ad.add i) = some (.slice A0 (l.getD i []).length c0) ∧ (Kd.int .i64).C w A0 (l.getD i []).length (l.getD i []) := by
 obtain ⟨ad, c, e, _, hK, hc0⟩ := Kd.C_get hr ([] : List Int) i (by omega) (by omega)
 have hc : ∀ j u, c[j]? = some u → w0.cell? (ad.add ((i : Int).toNat * 1 + j)) = some u := hc0
 obtain ⟨A0, c0, rfl, l0, g0⟩ := hK
 rw [Int.toNat_natCast] at g0 hc
 refine ⟨ad, A0, c0, e, cellB_ hB ?_, Kd.C_below g0 hB⟩
 have hq := hc 0 _ rfl
 rwa [Nat.mul_one, Nat.add_zero] at hq
theorem exec_mk {P : Program} {o : Oper} {a : Act} (t e : TypeId) (x : Operand) (ho : o.op = .makeSlice t x x) (m : Nat) (hx : a.eval x = .int .i64 (m : Int)) (z : Value) (sz bytes : Nat) (ht : P.underlying t = some (.slice e)) (hinfo : (P.info? e).map (fun i => (i.zero, i.size, i.bytes)) = some (some z, sz, bytes)) (hb0 : 0 < bytes) (hl : m * bytes ≤ 281474976710656) (W : World) :
  (execOp a.eval o).run P W = .ok (.value (.slice (some ⟨W.heap.size, 0, none⟩) m m)) (W.alloc (.cells (madeCells z.cells (m * sz)) e)) := by
 have h := run_mk t e z sz bytes ht hinfo hb0 m hl W
 unfold execOp
 rw [ho]
 simp only [hx]
 first
 | exact h
 | (simp [h]; done)
 | (go_simp; simp [h]; done)
def gOf (l0 : List Sg) (l1 : List P2) (n : Int) : Int × ByteArray × Int :=
 if sysB l0 l1 = true then (if inB n 0 16 = true then (if n = 0 then (0, ⟨#[]⟩, 0) else ((bestG (rowG (sysOf l0 l1) (tabG (sysOf l0 l1) n.toNat) n.toNat) (nxL (sysOf l0 l1) (sysOf l0 l1).m)).1, (bestG (rowG (sysOf l0 l1) (tabG (sysOf l0 l1) n.toNat) n.toNat) (nxL (sysOf l0 l1) (sysOf l0 l1).m)).2, 0)) else (0, ⟨#[]⟩, 2)) else (0, ⟨#[]⟩, 1)
def greatTab.T11 : Bool × List (List Nat × List Nat) := (true, [([], []), ([], []), ([], []), ([2], [2]), ([3], [3]), ([4, 4], [4]), ([0, 1, 0, 1, 2, 3, 4, 5], [0, 1]), ([6, 5, 0, 1, 2, 3, 4, 5], [5, 6])])
def greatTab.B11 : List Nat := [0, 0, 0, 4, 12, 28, 63, 127]
theorem greatTab.tab11 : rtab .any (opsOf Try.f10 11) = greatTab.T11 := by kernel_rfl
theorem greatTab.bits11 : waitsOk greatTab.T11.2 greatTab.B11 = true := by kernel_rfl
def greatTab.T18 : Bool × List (List Nat × List Nat) := (true, [([], []), ([], []), ([0, 1], [0, 1]), ([2], [2]), ([], []), ([], []), ([5], [5]), ([], []), ([7], [7]), ([6, 8], [6, 8]), ([3, 4, 0, 1, 2, 3, 4, 5, 6, 7, 8, 9], [3, 4]), ([10, 9, 0, 1, 2, 3, 4, 5, 6, 7, 8, 9], [9, 10])])
def greatTab.B18 : List Nat := [0, 0, 3, 7, 0, 0, 32, 0, 128, 480, 1023, 2047]
theorem greatTab.tab18 : rtab .any (opsOf Try.f10 18) = greatTab.T18 := by kernel_rfl
theorem greatTab.bits18 : waitsOk greatTab.T18.2 greatTab.B18 = true := by kernel_rfl
def greatTab.T22 : Bool × List (List Nat × List Nat) := (true, [([], []), ([], []), ([0, 1], [0, 1]), ([2], [2]), ([], []), ([], []), ([5], [5]), ([], []), ([7], [7]), ([6, 8], [6, 8]), ([], []), ([10], [10]), ([], []), ([12], [12]), ([11, 13], [11, 13]), ([9, 14], [9, 14]), ([3, 4, 0, 1, 2, 3, 4, 5, 6, 7, 8, 9, 10, 11, 12, 13, 14, 15], [3, 4]), ([16, 15, 0, 1, 2, 3, 4, 5, 6, 7, 8, 9, 10, 11, 12, 13, 14, 15], [15, 16])])
def greatTab.B22 : List Nat := [0, 0, 3, 7, 0, 0, 32, 0, 128, 480, 0, 1024, 0, 4096, 15360, 32736, 65535, 131071]
theorem greatTab.tab22 : rtab .any (opsOf Try.f10 22) = greatTab.T22 := by kernel_rfl
theorem greatTab.bits22 : waitsOk greatTab.T22.2 greatTab.B22 = true := by kernel_rfl
set_option maxHeartbeats 4000000 in
set_option maxRecDepth 100000 in
theorem great_calls (A0 A1 : Option Addr) (c0 c1 : Nat) (l0 : List Sg) (l1 : List P2) (a1 : Int) (w : World)
  (hr0 : Kd.C k102 w A0 l0.length l0) (hc0 : l0.length ≤ c0) (hr1 : Kd.C k104 w A1 l1.length l1) (hc1 : l1.length ≤ c1) (hw : wfSys l0 l1) :
  Calls Try.prog 10 #[.agg #[.slice A0 l0.length c0, .slice A1 l1.length c1], .int .i64 a1] w fun e w' => e = .returned (.tuple #[.int .i64 (gOf l0 l1 a1).1, .string (gOf l0 l1 a1).2.1, .int .i64 (gOf l0 l1 a1).2.2]) ∧ Below w.heap.size w w' := by
 have HR0 := Aside0.mk hr0
 have HC0 := Aside0.mk hc0
 have HR1 := Aside0.mk hr1
 have HC1 := Aside0.mk hc1
 have HW := Aside0.mk hw
 have HG := Aside0.mk (blk_new w (.cells #[.slice A0 l0.length c0, .slice A1 l1.length c1] 31 (0, 0)))
 have HX := Aside0.mk ((Below.refl w.heap.size w).alloc (Nat.le_refl _) (.cells #[.slice A0 l0.length c0, .slice A1 l1.length c1] 31 (0, 0)))
 clear hr0 hc0 hr1 hc1 hw
 go_enter Try.func10, Try.ntmps10
 go_wp2_with fail
 revert HG HX
 generalize (w.alloc (Obj.cells #[.slice A0 l0.length c0, .slice A1 l1.length c1] 31)) = v
 intro HG HX
 refine (validSys_calls A0 A1 c0 c1 l0 l1 v (Kd.C_below HR0.out HX.out) HC0.out (Kd.C_below HR1.out HX.out) HC1.out HW.out).mono ?_
 rintro e w1 ⟨rfl, hb1⟩
 have HX1 := Aside0.mk (below_step HX.out hb1)
 have HG1 := Aside0.mk (blk_below HG.out hb1)
 clear hb1 HX HG
 cases hv : sysB l0 l1 with
 | false =>
  have HV := Aside0.mk hv
  clear hv
  go_wp2_with fail
  go_ret3
  exact ⟨by unfold gOf; rw [HV.out]; rfl, HX1.out⟩
 | true =>
  have HV := Aside0.mk hv
  clear hv
  cases hq : inB a1 0 16 with
  | false =>
   have HQ := Aside0.mk hq
   go_wp2_with fail
   refine (within_as _ _ _ _ hq).mono ?_
   rintro e w' ⟨rfl, rfl⟩
   clear hq
   go_wp2_with fail
   go_ret3
   exact ⟨by unfold gOf; rw [HV.out, HQ.out]; rfl, HX1.out⟩
  | true =>
   have HQ := Aside0.mk hq
   obtain ⟨n, rfl⟩ : ∃ n : Nat, a1 = (n : Int) := ⟨a1.toNat, by have := hq; unfold inB at this; simp at this; omega⟩
   have hn : n ≤ 16 := by have := hq; unfold inB at this; simp at this; omega
   have HN := Aside0.mk hn
   clear hn
   have hs0 : w1.cell? ⟨w.heap.size, 0, none⟩ = some (.slice A0 l0.length c0) := (blk_cell HG1.out 0).trans rfl
   have hs1 : w1.cell? ⟨w.heap.size, 1, none⟩ = some (.slice A1 l1.length c1) := (blk_cell HG1.out 1).trans rfl
   go_wp2_with fail
   refine (within_as _ _ _ _ hq).mono ?_
   rintro e w' ⟨rfl, rfl⟩
   clear hq
   go_wp2_with fail
   clear hs0 hs1 HG1
   have HVL := Aside0.mk (val_of HV.out)
   refine (impl_builderOf.calls 500 A0 c0 l0 A1 c1 l1 (partsL l0 l1) (nextT l0 l1) w1 (Kd.C_below HR0.out HX1.out) HC0.out (Kd.C_below HR1.out HX1.out) HC1.out (builder_eq HW.out HVL.out (by omega))).mono ?_
   rintro e wb ⟨v0, v1, rfl, ho0, ho1, hbb⟩
   obtain ⟨A2, c2, rfl⟩ := Kd.R_slice ho0
   obtain ⟨A3, c3, rfl⟩ := Kd.S_slice ho1
   have HB0 := Aside0.mk (below_step HX1.out hbb)
   have HP := Aside0.mk (Kd.R_reads' ho0).2.2
   have HPC := Aside0.mk (Kd.R_reads' ho0).2.1
   have HNX := Aside0.mk (Kd.S_reads' ho1).2.2
   have HNC := Aside0.mk (Kd.S_reads' ho1).2.1
   have HOK := Aside0.mk (sysOf_ok HVL.out)
   have HIM := Aside0.mk (imp_of HVL.out)
   clear ho0 ho1 hbb HX1 HR0 HR1 HC0 HC1
   have hn1 : wrap64 ((n : Int) + 1) = ((n + 1 : Nat) : Int) := by have := HN.out; unfold wrap64; omega
   have hs : (sysOf l0 l1).m = l0.length + l1.length := rfl
   have hpl : (partsL l0 l1).length = (sysOf l0 l1).m := HIM.out.len
   have hnl : (nextT l0 l1).length = (sysOf l0 l1).m := HIM.out.nlen
   rw [hpl] at HP HPC
   rw [hnl] at HNX HNC
   have HEG : Aside0 (gOf l0 l1 (n : Int) = if (n : Int) = 0 then (0, ⟨#[]⟩, 0) else ((bestG (rowG (sysOf l0 l1) (tabG (sysOf l0 l1) n) n) (nxL (sysOf l0 l1) (sysOf l0 l1).m)).1, (bestG (rowG (sysOf l0 l1) (tabG (sysOf l0 l1) n) n) (nxL (sysOf l0 l1) (sysOf l0 l1).m)).2, 0)) := ⟨by unfold gOf; rw [if_pos HV.out, if_pos HQ.out, Int.toNat_natCast]⟩
   rw [hpl, hnl]
   clear hs HV HQ
   have HAL := Aside0.mk (all_eq HVL.out (nextT l0 l1) (k := 500) (by omega))
   generalize partsL l0 l1 = Ps at HP HIM HAL hpl
   generalize nextT l0 l1 = Nx at HNX HIM HAL hnl
   clear HVL HW
   generalize sysOf l0 l1 = s at HP HPC HNX HNC HIM HOK HAL HEG hpl hnl
   have hm0 := HOK.out.m0
   have hm1 := HOK.out.m1
   go_wp2_with (first | ((with_reducible refine gate_dst (N := 28) rfl ?_); refine Kd.event_run rfl (exec_mk 74 78 (.tmp 27) rfl (n + 1) ?hx (.slice none 0 0) 1 24 Try.underlying74 info_gs (by omega) (by have := HN.out; omega) _) ?_; (case hx => first | (go_simp; done) | (go_simp; rfl))))
   have K0 := Aside0.mk (blk_alloc (blk_alloc (blk_new wb (.cells #[.slice A2 s.m c2, .slice A3 s.m c3] 72 (0, 0))) (.cells (madeCells #[.slice none 0 0] (n + 1)) 78 (0, 0))) (.cells #[.slice (some ⟨wb.heap.size + 1, 0, none⟩) (n + 1) (n + 1)] 74 (0, 0)))
   have K1 : Aside0 ((((wb.alloc (.cells #[.slice A2 s.m c2, .slice A3 s.m c3] 72 (0, 0))).alloc (.cells (madeCells #[.slice none 0 0] (n + 1)) 78 (0, 0))).alloc (.cells #[.slice (some ⟨wb.heap.size + 1, 0, none⟩) (n + 1) (n + 1)] 74 (0, 0))).heap[wb.heap.size + 1]? = some (.cells (madeCells #[.slice none 0 0] (n + 1)) 78 (0, 0))) := ⟨blk_alloc (blk_at (by simp) _) _⟩
   have K2 : Aside0 ((((wb.alloc (.cells #[.slice A2 s.m c2, .slice A3 s.m c3] 72 (0, 0))).alloc (.cells (madeCells #[.slice none 0 0] (n + 1)) 78 (0, 0))).alloc (.cells #[.slice (some ⟨wb.heap.size + 1, 0, none⟩) (n + 1) (n + 1)] 74 (0, 0))).heap[wb.heap.size + 1 + 1]? = some (.cells #[.slice (some ⟨wb.heap.size + 1, 0, none⟩) (n + 1) (n + 1)] 74 (0, 0))) := ⟨blk_at (by simp) _⟩
   have KX := Aside0.mk (bwA (bwA (bwA (Below.refl wb.heap.size wb) (.cells #[.slice A2 s.m c2, .slice A3 s.m c3] 72 (0, 0))) (.cells (madeCells #[.slice none 0 0] (n + 1)) 78 (0, 0))) (.cells #[.slice (some ⟨wb.heap.size + 1, 0, none⟩) (n + 1) (n + 1)] 74 (0, 0)))
   have KG : Aside0 (wb.heap.size ≤ wb.heap.size ∧ wb.heap.size < wb.heap.size + 1 ∧ wb.heap.size + 1 < wb.heap.size + 1 + 1) := ⟨by omega⟩
   revert K0 K1 K2 KX KG
   generalize ((wb.alloc (Obj.cells #[Value.slice A2 s.m c2, Value.slice A3 s.m c3] 72)).alloc (Obj.cells (madeCells #[Value.slice none 0 0] (n + 1)) 78)).alloc (Obj.cells #[Value.slice (some ⟨wb.heap.size + 1, 0, none⟩) (n + 1) (n + 1)] 74) = wc
   generalize wb.heap.size + 1 = gO
   generalize gO + 1 = gT
   intro K0 K1 K2 KX KG
   obtain ⟨gB, hgB⟩ : ∃ gB, wb.heap.size = gB := ⟨_, rfl⟩
   replace KG : Aside0 (wb.heap.size ≤ gB ∧ gB < gO ∧ gO < gT) := ⟨by have := KG.out; omega⟩
   rw [hgB] at K0
   rw [show (Value.pointer (some (⟨wb.heap.size, 0, none⟩ : Addr))) = Value.pointer (some ⟨gB, 0, none⟩) from by rw [hgB]]
   clear hgB
   go_loopg [32] (n + 1) (fun gg v32 wr => ∃ (j : Nat) (OV : Array Value) (G : Nat → Nat), j ≤ n + 1 ∧ n + 1 - j ≤ gg ∧ v32 = .int .i64 j ∧ Aside0 (Below wb.heap.size wb wr) ∧ Aside0 (wr.heap[gB]? = some (.cells #[.slice A2 s.m c2, .slice A3 s.m c3] 72 (0, 0))) ∧ Aside0 (wr.heap[gT]? = some (.cells #[.slice (some ⟨gO, 0, none⟩) (n + 1) (n + 1)] 74 (0, 0))) ∧ Aside0 (TabAt wr gO gT s.m OV G (tabG s j)) ∧ Aside0 (OV.size = n + 1))
   case atStart => exact ⟨0, madeCells #[.slice none 0 0] (n + 1), fun _ => 0, Nat.zero_le _, by omega, rfl, KX, K0, K2, ⟨⟨K1.out, fun i hi => absurd hi (Nat.not_lt_zero _), fun i hi => absurd hi (Nat.not_lt_zero _), fun i hi => absurd hi (Nat.not_lt_zero _), fun i hi => absurd hi (Nat.not_lt_zero _), fun i j _ hi => absurd hi (Nat.not_lt_zero _)⟩⟩, ⟨by simp [madeCells]⟩⟩
   case round =>
    clear K0 K1 K2 KX
    obtain ⟨j, OV, G, hj, hgj, rfl, HX, HB, HT, HTA, HOV⟩ := hrel
    by_cases hlt : j < n + 1
    ·have hltz : (j : Int) < (n : Int) + 1 := by omega
     have hltn : (j : Int) < ((n + 1 : Nat) : Int) := by omega
     go_wp2_with fail
     have DX := Aside0.mk (bw1 HX.out)
     have DB := Aside0.mk (blk_drew HB.out)
     have DT := Aside0.mk (blk_drew HT.out)
     have DTA := Aside0.mk HTA.out.drew
     clear HX HB HT HTA
     have ht0 : wr.drew.cell? ⟨gT, 0, none⟩ = some (.slice (some ⟨gO, 0, none⟩) (n + 1) (n + 1)) := (blk_cell DT.out 0).trans rfl
     have hb0 : wr.drew.cell? ⟨gB, 0, none⟩ = some (.slice A2 s.m c2) := (blk_cell DB.out 0).trans rfl
     obtain ⟨ov0, hov0⟩ : ∃ x, OV[j]? = some x := ⟨_, Array.getElem?_eq_getElem (by rw [HOV.out]; omega)⟩
     have HV0 := Aside0.mk hov0
     clear hov0
     refine start_ (n := 8) (S := fun w' => w'.cell? ⟨gT, 0, none⟩ = some (.slice (some ⟨gO, 0, none⟩) (n + 1) (n + 1)) ∧ w'.cell? ⟨gB, 0, none⟩ = some (.slice A2 s.m c2)) (ds := [7]) #[false, false, false, false, false, false, false, false] (by kernel_rfl) rfl rfl ⟨ht0, hb0⟩ (fun hHeld => ?_)
     refine with_tabW greatTab.tab11 greatTab.bits11 (fun HT_ HW_ => ?_)
     generalize wr.drew = wd at DX DB DT DTA hHeld ⊢
     have AX := Aside0.mk (bwA DX.out (.cells (madeCells #[.int .i64 0, .string ⟨#[]⟩] (s.m * 2)) 77 (0, 0)))
     have AB := Aside0.mk (blk_alloc DB.out (.cells (madeCells #[.int .i64 0, .string ⟨#[]⟩] (s.m * 2)) 77 (0, 0)))
     have AT := Aside0.mk (blk_alloc DT.out (.cells (madeCells #[.int .i64 0, .string ⟨#[]⟩] (s.m * 2)) 77 (0, 0)))
     have ATA := Aside0.mk (DTA.out.alloc (.cells (madeCells #[.int .i64 0, .string ⟨#[]⟩] (s.m * 2)) 77 (0, 0)))
     have AR := Aside0.mk (blk_new wd (.cells (madeCells #[.int .i64 0, .string ⟨#[]⟩] (s.m * 2)) 77 (0, 0)))
     have hf0 : (wd.alloc (.cells (madeCells #[.int .i64 0, .string ⟨#[]⟩] (s.m * 2)) 77 (0, 0))).frozen? ⟨gO, j, none⟩ = false := blk_frozen ATA.out.ov j
     have hv0 : (wd.alloc (.cells (madeCells #[.int .i64 0, .string ⟨#[]⟩] (s.m * 2)) 77 (0, 0))).cell? ⟨gO, j, none⟩ = some ov0 := (blk_cell ATA.out.ov j).trans HV0.out
     have AU : Aside0 (∀ i, i < (tabG s j).length → G i < wd.heap.size) := ⟨fun i hi => blk_lt (DTA.out.row i hi)⟩
     have ALT : Aside0 (gT < wd.heap.size) := ⟨blk_lt DT.out⟩
     refine pu_ 1 (some 36) HT_ ?_
     refine pu_ 2 (some 37) HT_ ?_
     refine tk_ 0 (some 35) HT_ HW_ hHeld rfl (by rintro w' ⟨s0, s1⟩; go_simp; with_reducible rfl) ?_
     refine tk_ 3 (some 38) HT_ HW_ hHeld rfl (by rintro w' ⟨s0, s1⟩; go_simp; with_reducible rfl) ?_
     refine pu_ 4 (some 39) HT_ ?_
     refine on_ 5 (some 40) HT_ fun K hK => ?_
     refine value_ (by rfl) rfl (exec_mk 78 77 (.tmp 39) rfl s.m (by rfl) (.agg #[.int .i64 0, .string ⟨#[]⟩]) 2 24 Try.underlying78 info_gr (by omega) (by omega) _) ?_
     refine hK.out _ _ ⟨(blk_cell AT.out 0).trans rfl, (blk_cell AB.out 0).trans rfl⟩ (fun hHeld => ?_)
     clear hK K
     refine nm_ (some 40) ?_
     refine pu_ 6 (some 41) HT_ ?_
     refine la_ 7 (none) HT_ fun K hK => ?_
     refine skip_ (w1 := ?_) (by rfl) rfl ?_ ?_
     rotate_left
     ·go_simp
      rfl
     refine hK.out _ _ ?_
     clear hK K
     refine done_ (done_of HT_.out (by kernel_rfl)) ?_
     clear hHeld ht0 hb0 hf0 hv0 HT_ HW_
     have htl : (tabG s j).length = j := tabG_len s j
     have T11 : Aside0 (TabAt ((wd.alloc (.cells (madeCells #[.int .i64 0, .string ⟨#[]⟩] (s.m * 2)) 77 (0, 0))).setCell ⟨gO, j, none⟩ (.slice (some ⟨wd.heap.size, 0, none⟩) s.m s.m)) gO gT s.m (OV.setIfInBounds j (.slice (some ⟨wd.heap.size, 0, none⟩) s.m s.m)) (fun i => if i = j then wd.heap.size else G i) (tabG s j ++ [curG s j 0])) := ⟨by
      have h := ATA.out.push KG.out.2.2 (gR := wd.heap.size) (row := curG s j 0) (by rw [curG_zero, ← rowV_zero]; exact AR.out) (curG_len s (Nat.zero_le _)) ALT.out AU.out (by rw [htl, HOV.out]; exact hlt)
      rw [htl] at h
      exact h⟩
     have X11 := Aside0.mk (below_set (g := gO) (j := j) (v := .slice (some ⟨wd.heap.size, 0, none⟩) s.m s.m) AX.out (by have := KG.out; omega))
     have B11 := Aside0.mk (blk_far (p := ⟨gO, j, none⟩) AB.out (show gB ≠ gO from by have := KG.out; omega) (.slice (some ⟨wd.heap.size, 0, none⟩) s.m s.m))
     have Y11 := Aside0.mk (blk_far (p := ⟨gO, j, none⟩) AT.out (show gT ≠ gO from by have := KG.out; omega) (.slice (some ⟨wd.heap.size, 0, none⟩) s.m s.m))
     have HOV1 : Aside0 ((OV.setIfInBounds j (.slice (some ⟨wd.heap.size, 0, none⟩) s.m s.m)).size = n + 1) := ⟨by rw [Array.size_setIfInBounds]; exact HOV.out⟩
     clear AX AB AT ATA AR AU HV0 HOV DX DB DT DTA
     obtain ⟨gR, hgR⟩ : ∃ g, wd.heap.size = g := ⟨_, rfl⟩
     have HGR : Aside0 ((fun i => if i = j then wd.heap.size else G i) j = gR) := ⟨by dsimp only; rw [if_pos rfl]; exact hgR⟩
     have HGW : Aside0 (gT < gR) := ⟨by rw [← hgR]; exact ALT.out⟩
     clear hgR ALT
     revert T11 X11 B11 Y11 HOV1 HGR
     generalize OV.setIfInBounds j (.slice (some ⟨wd.heap.size, 0, none⟩) s.m s.m) = OV1
     generalize (fun i => if i = j then wd.heap.size else G i) = G1
     generalize ((wd.alloc (Obj.cells (madeCells #[Value.int .i64 0, Value.string ⟨#[]⟩] (s.m * 2)) 77)).setCell ⟨gO, j, none⟩ (Value.slice (some ⟨wd.heap.size, 0, none⟩) s.m s.m)) = w11
     intro T11 X11 B11 Y11 HOV1 HGR
     have hb0 : w11.cell? ⟨gB, 0, none⟩ = some (.slice A2 s.m c2) := (blk_cell B11.out 0).trans rfl
     go_wp2_with fail
     clear hb0
     go_loopg [45] s.m (fun gg v45 wr => ∃ k : Nat, k ≤ s.m ∧ s.m - k ≤ gg ∧ v45 = .int .i64 k ∧ Aside0 (Below wb.heap.size wb wr) ∧ Aside0 (wr.heap[gB]? = some (.cells #[.slice A2 s.m c2, .slice A3 s.m c3] 72 (0, 0))) ∧ Aside0 (wr.heap[gT]? = some (.cells #[.slice (some ⟨gO, 0, none⟩) (n + 1) (n + 1)] 74 (0, 0))) ∧ Aside0 (TabAt wr gO gT s.m OV1 G1 (tabG s j ++ [curG s j k])))
     case atStart => exact ⟨0, Nat.zero_le _, by omega, rfl, X11, B11, Y11, T11⟩
     case round =>
      clear T11 X11 B11 Y11
      obtain ⟨k, hk, hgk2, rfl, HX, HB, HT, HTA⟩ := hrel
      by_cases hl2 : k < s.m
      ·have hl2z : (k : Int) < (s.m : Int) := by omega
       obtain ⟨adp, hA2, hpc⟩ := pt_cells (l := Ps) (by rw [hpl]; exact HP.out) HX.out (by omega)
       obtain ⟨ad3, A4, c4, hA3, hn0, hn1⟩ := nx_cells (l := Nx) (i := k) (by rw [hnl]; exact HNX.out) (Below.refl _ _) (by omega)
       have hx := hpc k (by omega)
       rw [HIM.out.txt k hl2, HIM.out.val k hl2] at hx
       rw [HIM.out.nxt k hl2] at hn0 hn1
       obtain ⟨hx0, hx1⟩ := hx
       have HN0 := Aside0.mk hn0
       have HN1 := Aside0.mk hn1
       clear hpc hn0 hn1
       subst hA2
       subst hA3
       have t0 : (1 : Int) ≤ ((s.T k).size : Int) := HOK.out.l0 k hl2
       have t1 : ((s.T k).size : Int) ≤ 2 := HOK.out.l1 k hl2
       have v0 := HOK.out.v0 k hl2
       have v1 := HOK.out.v1 k hl2
       have HCG : Aside0 (cellG s (tabG s j) j k = if (j : Int) - ((s.T k).size : Int) = 0 then (s.V k, s.T k) else if (j : Int) - ((s.T k).size : Int) > 0 then (if 0 ≤ (bestG ((tabG s j).getD ((j : Int) - ((s.T k).size : Int)).toNat []) (nxL s k)).1 then (s.V k + (bestG ((tabG s j).getD ((j : Int) - ((s.T k).size : Int)).toNat []) (nxL s k)).1, s.T k ++ (bestG ((tabG s j).getD ((j : Int) - ((s.T k).size : Int)).toNat []) (nxL s k)).2) else noGr) else noGr) := ⟨rfl⟩
       have HCS := Aside0.mk (curG_set s (left := j) hl2)
       generalize s.T k = t at hx0 t0 t1 HCG
       generalize s.V k = v at hx1 v0 v1 HCG
       obtain ⟨d, hd⟩ : ∃ d, (j : Int) - (t.size : Int) = d := ⟨_, rfl⟩
       have hdw : wrap64 ((j : Int) - (t.size : Int)) = d := by have := HN.out; unfold wrap64; omega
       rw [hd] at HCG
       have hdj : d < (j : Int) := by omega
       clear hd
       have HL14 := Aside0.mk (HTA.out.alloc (.cells #[.string t, .int .i64 v] 81 (0, 0)))
       have ht0 : (wr.alloc (.cells #[.string t, .int .i64 v] 81 (0, 0))).cell? ⟨gT, 0, none⟩ = some (.slice (some ⟨gO, 0, none⟩) (n + 1) (n + 1)) := (blk_cell (blk_alloc HT.out _) 0).trans rfl
       have ho0 := HL14.out.cell (i := j) (by rw [tab_size]; omega)
       have hrc := HL14.out.rc (i := j) (k := k) (by rw [tab_size]; omega) hl2
       rw [HGR.out] at ho0 hrc
       have hr0 := hrc.1
       have hr1 := hrc.2
       clear hrc
       have hf0 := HL14.out.frz (i := j) (k := k * 2) (by rw [tab_size]; omega)
       have hf1 := HL14.out.frz (i := j) (k := k * 2 + 1) (by rw [tab_size]; omega)
       rw [HGR.out] at hf0 hf1
       have HG4 : Aside0 (wb.heap.size ≤ gR ∧ gB ≠ gR ∧ gT ≠ gR ∧ wr.heap.size ≠ gR) := ⟨by
        have h1 := blk_lt (HTA.out.row j (by rw [tab_size]; omega))
        rw [HGR.out] at h1
        have h2 := KG.out
        have h3 := HGW.out
        omega⟩
       clear HL14
       cases e1 : (d == 0) with
       | true =>
        go_wp2_with (first | ((with_reducible refine gate_store (t := 77) (p := 56) rfl ?_); go_loud (refine store_event (t := 77) (p := 56) (v := .tmp 55) (w1 := (((wr.alloc (.cells #[.string t, .int .i64 v] 81 (0, 0))).setCell ⟨gR, k * 2, none⟩ (.int .i64 (-1))).setCell ⟨gR, k * 2 + 1, none⟩ (.string ⟨#[]⟩))) ?hg ?ho ?hn ?hr ?_; (case ho => rfl); (case hg => rfl); (case hn => rfl); (case hr => first | (go_simp; done) | (go_simp; rfl)); intro w15 hw15; have T15 : Aside0 (TabAt w15 gO gT s.m OV1 G1 (tabG s j ++ [(curG s j k).set k ((-1 : Int), (⟨#[]⟩ : ByteArray))])) := ⟨by rw [hw15, ← HGR.out]; exact (HTA.out.alloc _).put KG.out.2.2 hl2 _ _⟩; have X15 : Aside0 (Below wb.heap.size wb w15) := ⟨by rw [hw15]; exact below_set (below_set (bwA HX.out _) HG4.out.1) HG4.out.1⟩; have B15 : Aside0 (w15.heap[gB]? = some (.cells #[.slice (some adp) s.m c2, .slice (some ad3) s.m c3] 72 (0, 0))) := ⟨by rw [hw15]; exact blk_far (p := ⟨gR, k * 2 + 1, none⟩) (blk_far (p := ⟨gR, k * 2, none⟩) (blk_alloc HB.out _) HG4.out.2.1 _) HG4.out.2.1 _⟩; have Y15 : Aside0 (w15.heap[gT]? = some (.cells #[.slice (some ⟨gO, 0, none⟩) (n + 1) (n + 1)] 74 (0, 0))) := ⟨by rw [hw15]; exact blk_far (p := ⟨gR, k * 2 + 1, none⟩) (blk_far (p := ⟨gR, k * 2, none⟩) (blk_alloc HT.out _) HG4.out.2.2.1 _) HG4.out.2.2.1 _⟩; have P15 : Aside0 (w15.heap[wr.heap.size]? = some (.cells #[.string t, .int .i64 v] 81 (0, 0))) := ⟨by rw [hw15]; exact blk_far (p := ⟨gR, k * 2 + 1, none⟩) (blk_far (p := ⟨gR, k * 2, none⟩) (blk_new wr _) HG4.out.2.2.2 _) HG4.out.2.2.2 _⟩; have hp0 : w15.cell? ⟨wr.heap.size, 0, none⟩ = some (.string t) := (blk_cell P15.out 0).trans rfl; clear hw15)))
        have D18 := Aside0.mk T15.out.drew
        have X18 := Aside0.mk (bw1 X15.out)
        have B18 := Aside0.mk (blk_drew B15.out)
        have Y18 := Aside0.mk (blk_drew Y15.out)
        have P18 := Aside0.mk (blk_drew P15.out)
        clear ht0 ho0 hp0 hf0 hf1 hr0 hr1
        have ht0 : w15.drew.cell? ⟨gT, 0, none⟩ = some (.slice (some ⟨gO, 0, none⟩) (n + 1) (n + 1)) := (blk_cell Y18.out 0).trans rfl
        have ho0 := D18.out.cell (i := j) (by rw [tab_size]; omega)
        rw [HGR.out] at ho0
        have hp0 : w15.drew.cell? ⟨wr.heap.size, 0, none⟩ = some (.string t) := (blk_cell P18.out 0).trans rfl
        have hp1 : w15.drew.cell? ⟨wr.heap.size, 1, none⟩ = some (.int .i64 v) := (blk_cell P18.out 1).trans rfl
        clear T15 X15 B15 Y15 P15 P18
        refine start_ (n := 12) (S := fun w' => w'.cell? ⟨gT, 0, none⟩ = some (.slice (some ⟨gO, 0, none⟩) (n + 1) (n + 1)) ∧ w'.cell? ⟨gO, j, none⟩ = some (.slice (some ⟨gR, 0, none⟩) s.m s.m) ∧ w'.cell? ⟨wr.heap.size, 0, none⟩ = some (.string t) ∧ w'.cell? ⟨wr.heap.size, 1, none⟩ = some (.int .i64 v)) (ds := [11]) #[false, false, false, false, false, false, false, false, false, false, false, false] (by kernel_rfl) rfl rfl ⟨ht0, ho0, hp0, hp1⟩ (fun hHeld => ?_)
        refine with_tabW greatTab.tab18 greatTab.bits18 (fun HT_ HW_ => ?_)
        generalize w15.drew = wd at D18 X18 B18 Y18 hHeld ⊢
        have hrc := D18.out.rc (i := j) (k := k) (by rw [tab_size]; omega) hl2
        rw [HGR.out] at hrc
        have hr0 := hrc.1
        have hr1 := hrc.2
        clear hrc
        have hf0 := D18.out.frz (i := j) (k := k * 2) (by rw [tab_size]; omega)
        have hf1 := D18.out.frz (i := j) (k := k * 2 + 1) (by rw [tab_size]; omega)
        rw [HGR.out] at hf0 hf1
        refine pu_ 1 (some 66) HT_ ?_
        refine pu_ 4 (some 69) HT_ ?_
        refine pu_ 5 (some 70) HT_ ?_
        refine pu_ 7 (some 72) HT_ ?_
        refine tk_ 0 (some 65) HT_ HW_ hHeld rfl (by rintro w' ⟨s0, s1, s2, s3⟩; go_simp; with_reducible rfl) ?_
        refine pu_ 2 (some 67) HT_ ?_
        refine tk_ 3 (some 68) HT_ HW_ hHeld rfl (by rintro w' ⟨s0, s1, s2, s3⟩; go_simp; with_reducible rfl) ?_
        refine tk_ 6 (some 71) HT_ HW_ hHeld rfl (by rintro w' ⟨s0, s1, s2, s3⟩; go_simp; with_reducible rfl) ?_
        refine tk_ 8 (some 73) HT_ HW_ hHeld rfl (by rintro w' ⟨s0, s1, s2, s3⟩; go_simp; with_reducible rfl) ?_
        refine pu_ 9 (some 74) HT_ ?_
        refine pu_ 10 (some 75) HT_ ?_
        refine la_ 11 (none) HT_ fun K hK => ?_
        refine skip_ (w1 := ?_) (by rfl) rfl ?_ ?_
        rotate_left
        ·go_simp
         rfl
        refine hK.out _ _ ?_
        clear hK K
        refine done_ (done_of HT_.out (by kernel_rfl)) ?_
        clear HT_ HW_
        have hgg := HG4.out
        have T19 := Aside0.mk (D18.out.put KG.out.2.2 hl2 v t)
        rw [HGR.out] at T19
        go_wp2_with fail
        go_roundg (s.m - (k + 1))
        case measure => omega
        case rel => exact ⟨k + 1, by omega, by omega, by go_num, ⟨below_set (below_set X18.out hgg.1) hgg.1⟩, ⟨blk_far (p := ⟨gR, k * 2 + 1, none⟩) (blk_far (p := ⟨gR, k * 2, none⟩) B18.out hgg.2.1 _) hgg.2.1 _⟩, ⟨blk_far (p := ⟨gR, k * 2 + 1, none⟩) (blk_far (p := ⟨gR, k * 2, none⟩) Y18.out hgg.2.2.1 _) hgg.2.2.1 _⟩, ⟨by rw [← HCS.out, HCG.out, if_pos (eq_of_beq e1)]; rw [List.set_set] at T19; exact T19.out⟩⟩
       | false =>
        cases e2 : decide (0 < d) with
        | false =>
         go_wp2_with (first | ((with_reducible refine gate_store (t := 77) (p := 56) rfl ?_); go_loud (refine store_event (t := 77) (p := 56) (v := .tmp 55) (w1 := (((wr.alloc (.cells #[.string t, .int .i64 v] 81 (0, 0))).setCell ⟨gR, k * 2, none⟩ (.int .i64 (-1))).setCell ⟨gR, k * 2 + 1, none⟩ (.string ⟨#[]⟩))) ?hg ?ho ?hn ?hr ?_; (case ho => rfl); (case hg => rfl); (case hn => rfl); (case hr => first | (go_simp; done) | (go_simp; rfl)); intro w15 hw15; have T15 : Aside0 (TabAt w15 gO gT s.m OV1 G1 (tabG s j ++ [(curG s j k).set k ((-1 : Int), (⟨#[]⟩ : ByteArray))])) := ⟨by rw [hw15, ← HGR.out]; exact (HTA.out.alloc _).put KG.out.2.2 hl2 _ _⟩; have X15 : Aside0 (Below wb.heap.size wb w15) := ⟨by rw [hw15]; exact below_set (below_set (bwA HX.out _) HG4.out.1) HG4.out.1⟩; have B15 : Aside0 (w15.heap[gB]? = some (.cells #[.slice (some adp) s.m c2, .slice (some ad3) s.m c3] 72 (0, 0))) := ⟨by rw [hw15]; exact blk_far (p := ⟨gR, k * 2 + 1, none⟩) (blk_far (p := ⟨gR, k * 2, none⟩) (blk_alloc HB.out _) HG4.out.2.1 _) HG4.out.2.1 _⟩; have Y15 : Aside0 (w15.heap[gT]? = some (.cells #[.slice (some ⟨gO, 0, none⟩) (n + 1) (n + 1)] 74 (0, 0))) := ⟨by rw [hw15]; exact blk_far (p := ⟨gR, k * 2 + 1, none⟩) (blk_far (p := ⟨gR, k * 2, none⟩) (blk_alloc HT.out _) HG4.out.2.2.1 _) HG4.out.2.2.1 _⟩; have P15 : Aside0 (w15.heap[wr.heap.size]? = some (.cells #[.string t, .int .i64 v] 81 (0, 0))) := ⟨by rw [hw15]; exact blk_far (p := ⟨gR, k * 2 + 1, none⟩) (blk_far (p := ⟨gR, k * 2, none⟩) (blk_new wr _) HG4.out.2.2.2 _) HG4.out.2.2.2 _⟩; have hp0 : w15.cell? ⟨wr.heap.size, 0, none⟩ = some (.string t) := (blk_cell P15.out 0).trans rfl; clear hw15)))
         go_roundg (s.m - (k + 1))
         case measure => omega
         case rel => exact ⟨k + 1, by omega, by omega, by go_num, X15, B15, Y15, ⟨by rw [← HCS.out, HCG.out, if_neg (ne_of_beq_false e1), if_neg (of_decide_eq_false e2)]; exact T15.out⟩⟩
        | true =>
         obtain ⟨r, rfl⟩ : ∃ r : Nat, d = (r : Int) := ⟨d.toNat, by have := of_decide_eq_true e2; omega⟩
         have hrj : r < j := by omega
         have hrp : 0 < r := by have := of_decide_eq_true e2; omega
         go_wp2_with (first | ((with_reducible refine gate_store (t := 77) (p := 56) rfl ?_); go_loud (refine store_event (t := 77) (p := 56) (v := .tmp 55) (w1 := (((wr.alloc (.cells #[.string t, .int .i64 v] 81 (0, 0))).setCell ⟨gR, k * 2, none⟩ (.int .i64 (-1))).setCell ⟨gR, k * 2 + 1, none⟩ (.string ⟨#[]⟩))) ?hg ?ho ?hn ?hr ?_; (case ho => rfl); (case hg => rfl); (case hn => rfl); (case hr => first | (go_simp; done) | (go_simp; rfl)); intro w15 hw15; have T15 : Aside0 (TabAt w15 gO gT s.m OV1 G1 (tabG s j ++ [(curG s j k).set k ((-1 : Int), (⟨#[]⟩ : ByteArray))])) := ⟨by rw [hw15, ← HGR.out]; exact (HTA.out.alloc _).put KG.out.2.2 hl2 _ _⟩; have X15 : Aside0 (Below wb.heap.size wb w15) := ⟨by rw [hw15]; exact below_set (below_set (bwA HX.out _) HG4.out.1) HG4.out.1⟩; have B15 : Aside0 (w15.heap[gB]? = some (.cells #[.slice (some adp) s.m c2, .slice (some ad3) s.m c3] 72 (0, 0))) := ⟨by rw [hw15]; exact blk_far (p := ⟨gR, k * 2 + 1, none⟩) (blk_far (p := ⟨gR, k * 2, none⟩) (blk_alloc HB.out _) HG4.out.2.1 _) HG4.out.2.1 _⟩; have Y15 : Aside0 (w15.heap[gT]? = some (.cells #[.slice (some ⟨gO, 0, none⟩) (n + 1) (n + 1)] 74 (0, 0))) := ⟨by rw [hw15]; exact blk_far (p := ⟨gR, k * 2 + 1, none⟩) (blk_far (p := ⟨gR, k * 2, none⟩) (blk_alloc HT.out _) HG4.out.2.2.1 _) HG4.out.2.2.1 _⟩; have P15 : Aside0 (w15.heap[wr.heap.size]? = some (.cells #[.string t, .int .i64 v] 81 (0, 0))) := ⟨by rw [hw15]; exact blk_far (p := ⟨gR, k * 2 + 1, none⟩) (blk_far (p := ⟨gR, k * 2, none⟩) (blk_new wr _) HG4.out.2.2.2 _) HG4.out.2.2.2 _⟩; have hp0 : w15.cell? ⟨wr.heap.size, 0, none⟩ = some (.string t) := (blk_cell P15.out 0).trans rfl; clear hw15; have hb1 : w15.cell? ⟨gB, 1, none⟩ = some (.slice (some ad3) s.m c3) := (blk_cell B15.out 1).trans rfl; have hn0 := cellB_ X15.out HN0.out)))
         have hrl : r < (tabG s j ++ [(curG s j k).set k ((-1 : Int), (⟨#[]⟩ : ByteArray))]).length := by rw [tab_size]; omega
         have hRl := T15.out.len r hrl
         have hRc := fun (q : Nat) (hq : q < s.m) => T15.out.rc (i := r) (k := q) hrl hq
         rw [tab_old s _ hrj] at hRl hRc
         have hro := T15.out.cell (i := r) hrl
         have hOKG := bestG_ok ((tabG s j).getD r []) r (by rw [tabG_get s hrj]; exact tabG_ok s HOK.out r) (nxL s k)
         rw [if_neg (ne_of_beq_false e1), if_pos (of_decide_eq_true e2), Int.toNat_natCast] at HCG
         have hme : ∀ q ∈ nxL s k, 0 ≤ q ∧ q < (s.m : Int) := fun q hq => by obtain ⟨p, h1, _, rfl⟩ := mem_nxL.1 hq; omega
         generalize (tabG s j).getD r [] = R at hRl hRc hOKG HCG
         rw [← hRl] at hro hme
         rw [show (s.m : Nat) = R.length from hRl.symm] at hRc
         clear ht0 ho0 hp0 hb1 hn0 hf0 hf1 hr0 hr1 hx0 hx1
         refine (best_calls gT gO (G1 r) (n + 1) (n + 1) R.length r R A4 c4 (nxL s k) w15 ((blk_cell Y15.out 0).trans rfl) (by omega) hro hRc (Kd.C_below HN1.out X15.out) hme).mono ?_
         rintro e w16 ⟨rfl, hb16⟩
         have T16 := Aside0.mk (T15.out.below hb16)
         have X16 := Aside0.mk (below_step X15.out hb16)
         have B16 := Aside0.mk (blk_below B15.out hb16)
         have Y16 := Aside0.mk (blk_below Y15.out hb16)
         have P16 := Aside0.mk (blk_below P15.out hb16)
         clear T15 X15 B15 Y15 P15 hb16 hro hRc hme hRl hrl
         generalize bestG R (nxL s k) = own at hOKG HCG ⊢
         obtain ⟨ov, os⟩ := own
         dsimp only at HCG
         obtain ⟨k0, k1, k2⟩ := hOKG
         dsimp only at k0 k1 k2
         have k3 : ov ≤ 524272 := by have := HN.out; omega
         have k4 : os.size ≤ 16 := by have := HN.out; omega
         clear k1 k2
         cases e3 : decide (0 ≤ ov) with
         | false =>
          go_wp2_with fail
          go_roundg (s.m - (k + 1))
          case measure => omega
          case rel => exact ⟨k + 1, by omega, by omega, by go_num, ⟨bwA X16.out _⟩, ⟨blk_alloc B16.out _⟩, ⟨blk_alloc Y16.out _⟩, ⟨by rw [← HCS.out, HCG.out, if_neg (of_decide_eq_false e3)]; exact T16.out.alloc _⟩⟩
         | true =>
          have hvs : wrap64 (v + ov) = v + ov := by unfold wrap64; omega
          have hss : (9223372036854775807 < t.size + os.size) = False := eq_false (by omega)
          have HVS := Aside0.mk hvs
          have HSS := Aside0.mk hss
          clear hvs hss
          go_wp2_with fail
          have D22 := Aside0.mk (T16.out.alloc (.cells #[.int .i64 ov, .string os] 77 (0, 0))).drew
          have X22 := Aside0.mk (bw1 (bwA X16.out (.cells #[.int .i64 ov, .string os] 77 (0, 0))))
          have B22 := Aside0.mk (blk_drew (blk_alloc B16.out (.cells #[.int .i64 ov, .string os] 77 (0, 0))))
          have Y22 := Aside0.mk (blk_drew (blk_alloc Y16.out (.cells #[.int .i64 ov, .string os] 77 (0, 0))))
          have P22 := Aside0.mk (blk_drew (blk_alloc P16.out (.cells #[.int .i64 ov, .string os] 77 (0, 0))))
          have Q22 := Aside0.mk (blk_drew (blk_new w16 (.cells #[.int .i64 ov, .string os] 77 (0, 0))))
          have ht0 : (w16.alloc (.cells #[.int .i64 ov, .string os] 77 (0, 0))).drew.cell? ⟨gT, 0, none⟩ = some (.slice (some ⟨gO, 0, none⟩) (n + 1) (n + 1)) := (blk_cell Y22.out 0).trans rfl
          have ho0 := D22.out.cell (i := j) (by rw [tab_size]; omega)
          rw [HGR.out] at ho0
          have hp0 : (w16.alloc (.cells #[.int .i64 ov, .string os] 77 (0, 0))).drew.cell? ⟨wr.heap.size, 0, none⟩ = some (.string t) := (blk_cell P22.out 0).trans rfl
          have hp1 : (w16.alloc (.cells #[.int .i64 ov, .string os] 77 (0, 0))).drew.cell? ⟨wr.heap.size, 1, none⟩ = some (.int .i64 v) := (blk_cell P22.out 1).trans rfl
          have hq0 : (w16.alloc (.cells #[.int .i64 ov, .string os] 77 (0, 0))).drew.cell? ⟨w16.heap.size, 0, none⟩ = some (.int .i64 ov) := (blk_cell Q22.out 0).trans rfl
          have hq1 : (w16.alloc (.cells #[.int .i64 ov, .string os] 77 (0, 0))).drew.cell? ⟨w16.heap.size, 1, none⟩ = some (.string os) := (blk_cell Q22.out 1).trans rfl
          clear T16 X16 B16 Y16 P16 P22 Q22
          have hvs := HVS.out
          have hss := HSS.out
          refine start_ (n := 18) (S := fun w' => w'.cell? ⟨gT, 0, none⟩ = some (.slice (some ⟨gO, 0, none⟩) (n + 1) (n + 1)) ∧ w'.cell? ⟨gO, j, none⟩ = some (.slice (some ⟨gR, 0, none⟩) s.m s.m) ∧ w'.cell? ⟨wr.heap.size, 0, none⟩ = some (.string t) ∧ w'.cell? ⟨wr.heap.size, 1, none⟩ = some (.int .i64 v) ∧ w'.cell? ⟨w16.heap.size, 0, none⟩ = some (.int .i64 ov) ∧ w'.cell? ⟨w16.heap.size, 1, none⟩ = some (.string os)) (ds := [17]) #[false, false, false, false, false, false, false, false, false, false, false, false, false, false, false, false, false, false] (by kernel_rfl) rfl rfl ⟨ht0, ho0, hp0, hp1, hq0, hq1⟩ (fun hHeld => ?_)
          refine with_tabW greatTab.tab22 greatTab.bits22 (fun HT_ HW_ => ?_)
          generalize (w16.alloc (Obj.cells #[Value.int .i64 ov, Value.string os] 77)).drew = wd at D22 X22 B22 Y22 hHeld ⊢
          have hrc := D22.out.rc (i := j) (k := k) (by rw [tab_size]; omega) hl2
          rw [HGR.out] at hrc
          have hr0 := hrc.1
          have hr1 := hrc.2
          clear hrc
          have hf0 := D22.out.frz (i := j) (k := k * 2) (by rw [tab_size]; omega)
          have hf1 := D22.out.frz (i := j) (k := k * 2 + 1) (by rw [tab_size]; omega)
          rw [HGR.out] at hf0 hf1
          refine pu_ 1 (some 91) HT_ ?_
          refine pu_ 4 (some 94) HT_ ?_
          refine pu_ 5 (some 95) HT_ ?_
          refine pu_ 7 (some 97) HT_ ?_
          refine pu_ 10 (some 100) HT_ ?_
          refine pu_ 12 (some 102) HT_ ?_
          refine tk_ 0 (some 90) HT_ HW_ hHeld rfl (by rintro w' ⟨s0, s1, s2, s3, s4, s5⟩; go_simp; with_reducible rfl) ?_
          refine pu_ 2 (some 92) HT_ ?_
          refine tk_ 3 (some 93) HT_ HW_ hHeld rfl (by rintro w' ⟨s0, s1, s2, s3, s4, s5⟩; go_simp; with_reducible rfl) ?_
          refine tk_ 6 (some 96) HT_ HW_ hHeld rfl (by rintro w' ⟨s0, s1, s2, s3, s4, s5⟩; go_simp; with_reducible rfl) ?_
          refine tk_ 8 (some 98) HT_ HW_ hHeld rfl (by rintro w' ⟨s0, s1, s2, s3, s4, s5⟩; go_simp; with_reducible rfl) ?_
          refine pu_ 9 (some 99) HT_ ?_
          refine tk_ 11 (some 101) HT_ HW_ hHeld rfl (by rintro w' ⟨s0, s1, s2, s3, s4, s5⟩; go_simp; with_reducible rfl) ?_
          refine tk_ 13 (some 103) HT_ HW_ hHeld rfl (by rintro w' ⟨s0, s1, s2, s3, s4, s5⟩; go_simp; with_reducible rfl) ?_
          refine pu_ 14 (some 104) HT_ ?_
          refine pu_ 15 (some 105) HT_ ?_
          refine pu_ 16 (some 106) HT_ ?_
          refine la_ 17 (none) HT_ fun K hK => ?_
          refine skip_ (w1 := ?_) (by rfl) rfl ?_ ?_
          rotate_left
          ·go_simp
           rfl
          refine hK.out _ _ ?_
          clear hK K
          refine done_ (done_of HT_.out (by kernel_rfl)) ?_
          clear HT_ HW_
          have hgg := HG4.out
          have T23 := Aside0.mk (D22.out.put KG.out.2.2 hl2 (v + ov) (t ++ os))
          rw [HGR.out] at T23
          go_wp2_with fail
          go_roundg (s.m - (k + 1))
          case measure => omega
          case rel => exact ⟨k + 1, by omega, by omega, by go_num, ⟨below_set (below_set X22.out hgg.1) hgg.1⟩, ⟨blk_far (p := ⟨gR, k * 2 + 1, none⟩) (blk_far (p := ⟨gR, k * 2, none⟩) B22.out hgg.2.1 _) hgg.2.1 _⟩, ⟨blk_far (p := ⟨gR, k * 2 + 1, none⟩) (blk_far (p := ⟨gR, k * 2, none⟩) Y22.out hgg.2.2.1 _) hgg.2.2.1 _⟩, ⟨by rw [← HCS.out, HCG.out, if_pos (of_decide_eq_true e3)]; rw [List.set_set] at T23; exact T23.out⟩⟩
      ·have hl2z : ¬ (k : Int) < (s.m : Int) := by omega
       obtain rfl : k = s.m := by omega
       go_wp2_with fail
       have HJ1 : Aside0 (wrap64 ((j : Int) + 1) = ((j + 1 : Nat) : Int)) := ⟨by have := HN.out; unfold wrap64; omega⟩
       go_roundg (n + 1 - (j + 1))
       case measure => omega
       case rel => exact ⟨j + 1, OV1, G1, by omega, by omega, (by rw [HJ1.out]), HX, HB, HT, ⟨by rw [show tabG s (j + 1) = tabG s j ++ [rowG s (tabG s j) j] from rfl, ← curG_all]; exact HTA.out⟩, HOV1⟩
    ·have hltz : ¬ (j : Int) < (n : Int) + 1 := by omega
     obtain rfl : j = n + 1 := by omega
     have hb0 : wr.cell? ⟨gB, 0, none⟩ = some (.slice A2 s.m c2) := (blk_cell HB.out 0).trans rfl
     have hb1 : wr.cell? ⟨gB, 1, none⟩ = some (.slice A3 s.m c3) := (blk_cell HB.out 1).trans rfl
     have HBW := Aside0.mk (below_then HB0.out HB0.out.size HX.out)
     cases e9 : ((n : Int) == 0) with
     | true =>
      go_wp2_with fail
      go_ret3
      exact ⟨by rw [HEG.out, if_pos (eq_of_beq e9)]; rfl, HBW.out⟩
     | false =>
      have HE9 := Aside0.mk (ne_of_beq_false e9)
      go_wp2_with fail
      clear hb0 hb1
      have HAF : Aside0 (impl_builder_all.f 500 Ps Nx = some (nxL s s.m)) := HAL
      have ha := impl_builder_all.calls 500 A2 c2 Ps A3 c3 Nx (nxL s s.m) wr (by rw [hpl]; exact Kd.C_below HP.out HX.out) (by rw [hpl]; exact HPC.out) (by rw [hnl]; exact Kd.C_below HNX.out HX.out) (by rw [hnl]; exact HNC.out) HAF.out
      rw [hpl, hnl] at ha
      refine ha.mono ?_
      clear ha
      rintro e wa ⟨va, rfl, hoa, hba⟩
      obtain ⟨A5, c5, rfl⟩ := Kd.R_slice hoa
      have T30 := Aside0.mk (HTA.out.below hba)
      have Y30 := Aside0.mk (blk_below HT.out hba)
      have B30 := Aside0.mk (below_step HBW.out hba)
      have C30 := Aside0.mk (Kd.R_reads' hoa).2.2
      clear hoa hba HTA HT HB HX
      go_wp2_with fail
      have hrl : n < (tabG s (n + 1)).length := by rw [tabG_len]; omega
      have hRl := T30.out.len n hrl
      have hRc := fun (q : Nat) (hq : q < s.m) => T30.out.rc (i := n) (k := q) hrl hq
      have hro := T30.out.cell (i := n) hrl
      rw [tabG_get s (show n < n + 1 from by omega)] at hRl hRc
      have HEG2 := Aside0.mk (HEG.out.trans (if_neg HE9.out))
      generalize rowG s (tabG s n) n = R at hRl hRc HEG2
      have hme : ∀ q ∈ nxL s s.m, 0 ≤ q ∧ q < (R.length : Int) := fun q hq => by rw [hRl]; obtain ⟨p, h1, _, rfl⟩ := mem_nxL.1 hq; omega
      rw [← hRl] at hro
      rw [show (s.m : Nat) = R.length from hRl.symm] at hRc
      refine (best_calls gT gO (G n) (n + 1) (n + 1) R.length n R A5 c5 (nxL s s.m) wa ((blk_cell Y30.out 0).trans rfl) (by omega) hro hRc C30.out hme).mono ?_
      rintro e wz ⟨rfl, hbz⟩
      have B31 := Aside0.mk (below_step B30.out hbz)
      clear hbz hro hRc hme hRl hrl
      generalize bestG R (nxL s s.m) = own at HEG2 ⊢
      obtain ⟨ov, os⟩ := own
      go_wp2_with fail
      have B32 := Aside0.mk (bwA B31.out (.cells #[.int .i64 ov, .string os] 77 (0, 0)))
      have hq0 : (wz.alloc (.cells #[.int .i64 ov, .string os] 77 (0, 0))).cell? ⟨wz.heap.size, 0, none⟩ = some (.int .i64 ov) := (blk_cell (blk_new wz _) 0).trans rfl
      have hq1 : (wz.alloc (.cells #[.int .i64 ov, .string os] 77 (0, 0))).cell? ⟨wz.heap.size, 1, none⟩ = some (.string os) := (blk_cell (blk_new wz _) 1).trans rfl
      go_quiet (fail)
      go_wp2_with fail
      go_ret3
      exact ⟨by rw [HEG2.out]; rfl, by first | exact bw1 B32.out | exact pwN B32.out _ | exact B32.out⟩
def impl_GreatestOf.f (l0_0 : List Sg) (l0_1 : List P2) (a1 : Int) : Option (Int × ByteArray × Int) := if wfSys l0_0 l0_1 then some (gOf l0_0 l0_1 a1) else none
theorem impl_GreatestOf.calls (A0_0 : Option Addr) (c0_0 : Nat) (l0_0 : List Sg) (A0_1 : Option Addr) (c0_1 : Nat) (l0_1 : List P2) (a1 : Int) (r1 : Int) (r2 : ByteArray) (r3 : Int) (w : World) (hr0_0 : Kd.C k102 w A0_0 l0_0.length l0_0) (hc0_0 : l0_0.length ≤ c0_0) (hr0_1 : Kd.C k104 w A0_1 l0_1.length l0_1) (hc0_1 : l0_1.length ≤ c0_1) (h : impl_GreatestOf.f l0_0 l0_1 a1 = some (r1, r2, r3)) :
  Calls Try.prog 10 #[.agg #[.slice A0_0 l0_0.length c0_0, .slice A0_1 l0_1.length c0_1], .int .i64 a1] w fun e w' => e = .returned (.tuple #[.int .i64 r1, .string r2, .int .i64 r3]) ∧ Below w.heap.size w w' := by
 unfold impl_GreatestOf.f at h
 split at h
 ·rename_i hw
  have hg := Option.some.inj h
  have := great_calls A0_0 A0_1 c0_0 c0_1 l0_0 l0_1 a1 w hr0_0 hc0_0 hr0_1 hc0_1 hw
  rw [hg] at this
  exact this
 ·cases h
end Go.Proofs.Ytlepbhlbooajmaa.Ext
namespace Go.Proofs.Ytlepbhlbooajmaa.Q
open Go.Proofs.Ytlepbhlbooajmaa.Ext
open Go.RowKit Go.Proofs.YtlepbhlbooajmaaW.PrintWords Go.Proofs.YtlepbhlbooajmaaW.PrintLast Go.Proofs.YtlepbhlbooajmaaW.PrintMore
attribute [local go_sem] max2_int min2_int max_two min_two max_three min_three max_four min_four
set_option linter.unusedVariables false
set_option linter.unusedSimpArgs false
def spec_l00Max.f (a0 : Int) (a1 : Int) : Option (Int) := if a0 > a1 then (some a0) else (some a1)
set_option maxHeartbeats 8000000 in
set_option maxRecDepth 100000 in
theorem spec_l00Max.calls (a0 a1 r : Int) (w : World) (h : spec_l00Max.f a0 a1 = some r) :
  Calls Try.prog 56 #[.int .i64 a0, .int .i64 a1] w fun e w' => e = .returned (.int .i64 r) ∧ Drawn0 w w' := by
 have H : (if a0 > a1 then (some a0) else (some a1)) = some r := h
 clear h
 by_cases c3 : a0 > a1
 ·rw [if_pos c3] at H
  have c3b0 : decide (a1 < a0) = true := decide_eq_true c3
  clear c3
  obtain rfl := Option.some.inj H
  go_enter Try.func56, Try.ntmps56
  go_wp2
  go_ret
  exact ⟨by first | rfl | (simp; done) | (simp [*]; done), by repeat (first | exact Drawn0.refl _ | apply Drawn0.step)⟩
 ·rw [if_neg c3] at H
  have c3b0 : decide (a1 < a0) = false := decide_eq_false c3
  clear c3
  obtain rfl := Option.some.inj H
  go_enter Try.func56, Try.ntmps56
  go_wp2
  go_ret
  exact ⟨by first | rfl | (simp; done) | (simp [*]; done), by repeat (first | exact Drawn0.refl _ | apply Drawn0.step)⟩
end Go.Proofs.Ytlepbhlbooajmaa.Q
namespace Go.Proofs.Ytlepbhlbooajmaa.Ext
end Go.Proofs.Ytlepbhlbooajmaa.Ext
namespace Go.Proofs.Ytlepbhlbooajmaa.Q
open Go.Proofs.Ytlepbhlbooajmaa.Ext
open Go.RowKit Go.Proofs.YtlepbhlbooajmaaW.PrintWords Go.Proofs.YtlepbhlbooajmaaW.PrintLast Go.Proofs.YtlepbhlbooajmaaW.PrintMore
attribute [local go_sem] max2_int min2_int max_two min_two max_three min_three max_four min_four
set_option linter.unusedVariables false
set_option linter.unusedSimpArgs false
mutual
def spec_l03Great.l0 : Nat → List (S108) → List (List Bool) → Int → List (List Int) → Int → Option ((List (List Int)))
 | 0, _, _, _, _, _ => none
 | k + 1, x0, x1, x2, x7, x8 => if x8 ≤ x2 then (if 0 ≤ (wrap64 ((x0.length : Int) + 1)) then (if (wrap64 ((x0.length : Int) + 1) : Int).toNat ≤ 35184372088832 then (spec_l03Great.l1 k x0 x1 x2 x7 x8 (List.replicate (wrap64 ((x0.length : Int) + 1) : Int).toNat 0) 0) else (none)) else (none)) else (some x7)
def spec_l03Great.l1 : Nat → List (S108) → List (List Bool) → Int → List (List Int) → Int → List Int → Int → Option ((List (List Int)))
 | 0, _, _, _, _, _, _, _ => none
 | k + 1, x0, x1, x2, x7, x8, x9, x10 => if x10 ≤ (x0.length : Int) then (spec_l03Great.j2 k x0 x1 x2 x7 x8 x9 x10 (decide (x8 > 0))) else (spec_l03Great.j2 k x0 x1 x2 x7 x8 x9 x10 false)
def spec_l03Great.j2 : Nat → List (S108) → List (List Bool) → Int → List (List Int) → Int → List Int → Int → Bool → Option ((List (List Int)))
 | 0, _, _, _, _, _, _, _, _ => none
 | k + 1, x0, x1, x2, x7, x8, x9, x10, x30 => if x30 = true then (if 0 ≤ x10 then (if x10 < (x9.length : Int) then (spec_l03Great.l2 k x0 x1 x2 x7 x8 (x9.set (x10 : Int).toNat (-1)) x10 0) else (none)) else (none)) else (if x7.length < 5864062014805 then (spec_l03Great.l0 k x0 x1 x2 (x7 ++ [x9]) (wrap64 (x8 + 1))) else (none))
def spec_l03Great.l2 : Nat → List (S108) → List (List Bool) → Int → List (List Int) → Int → List Int → Int → Int → Option ((List (List Int)))
 | 0, _, _, _, _, _, _, _, _ => none
 | k + 1, x0, x1, x2, x7, x8, x9, x10, x11 => if x11 < (x0.length : Int) then (if 0 ≤ x11 then (if 0 ≤ x10 then (if x10 < (x1.length : Int) then (if x11 < ((rd_L11 x1 x10).length : Int) then (if rdOf false (rd_L11 x1 x10) x11 = true then (if (wrap64 (x8 - (((rd_T108 x0 x11).f0).size : Int))) ≥ 0 then (if 0 ≤ (wrap64 (x8 - (((rd_T108 x0 x11).f0).size : Int))) then (if (wrap64 (x8 - (((rd_T108 x0 x11).f0).size : Int))) < (x7.length : Int) then (if x11 < ((rd_L12 x7 (wrap64 (x8 - (((rd_T108 x0 x11).f0).size : Int)))).length : Int) then (if (rd (rd_L12 x7 (wrap64 (x8 - (((rd_T108 x0 x11).f0).size : Int)))) x11) ≥ 0 then (if x10 < (x9.length : Int) then ((spec_l00Max.f (rd x9 x10) (wrap64 (((rd_T108 x0 x11).f1) + (rd (rd_L12 x7 (wrap64 (x8 - (((rd_T108 x0 x11).f0).size : Int)))) x11)))).bind fun t456 => (spec_l03Great.l2 k x0 x1 x2 x7 x8 (x9.set (x10 : Int).toNat t456) x10 (wrap64 (x11 + 1)))) else (none)) else (spec_l03Great.l2 k x0 x1 x2 x7 x8 x9 x10 (wrap64 (x11 + 1)))) else (none)) else (none)) else (none)) else (spec_l03Great.l2 k x0 x1 x2 x7 x8 x9 x10 (wrap64 (x11 + 1)))) else (spec_l03Great.l2 k x0 x1 x2 x7 x8 x9 x10 (wrap64 (x11 + 1)))) else (none)) else (none)) else (none)) else (none)) else (spec_l03Great.l1 k x0 x1 x2 x7 x8 x9 (wrap64 (x10 + 1)))
end
def spec_l03Great.f (k : Nat) (l0 : List (S108)) (l1 : List (List Bool)) (a2 : Int) : Option ((List (List Int))) := spec_l03Great.l0 k l0 l1 a2 (([] : List (List Int))) 0
def spec_l03Great.T15 : Bool × List (List Nat × List Nat) := (true, [([], []), ([], []), ([], []), ([], []), ([2, 3], [2, 3]), ([4], [4]), ([], []), ([], []), ([6, 7], [6, 7]), ([8], [8]), ([9], [9]), ([], []), ([], []), ([11, 12], [11, 12]), ([13], [13]), ([], []), ([14, 15], [14, 15]), ([16], [16]), ([10, 17], [10, 17]), ([5, 18], [5, 18]), ([0, 1, 0, 1, 2, 3, 4, 5, 6, 7, 8, 9, 10, 11, 12, 13, 14, 15, 16, 17, 18, 19], [0, 1]), ([20, 19, 19, 0, 1, 2, 3, 4, 5, 6, 7, 8, 9, 10, 11, 12, 13, 14, 15, 16, 17, 18, 19], [19, 20])])
def spec_l03Great.B15 : List Nat := [0, 0, 0, 0, 12, 28, 0, 0, 192, 448, 960, 0, 0, 6144, 14336, 0, 63488, 129024, 262080, 524284, 1048575, 2097151]
theorem spec_l03Great.tab15 : rtab .any (opsOf Try.f27 15) = spec_l03Great.T15 := by kernel_rfl
theorem spec_l03Great.bits15 : waitsOk spec_l03Great.T15.2 spec_l03Great.B15 = true := by kernel_rfl
set_option maxHeartbeats 8000000 in
set_option maxRecDepth 100000 in
theorem spec_l03Great.calls (k : Nat) (A0 : Option Addr) (c0 : Nat) (l0 : List (S108)) (A1 : Option Addr) (c1 : Nat) (l1 : List (List Bool)) (a2 : Int) (r : List (List Int)) (w : World) (hr0 : Kd.C k108 w A0 l0.length l0) (hc0 : l0.length ≤ c0) (hr1 : Kd.C (Kd.slice 4 Kd.bool) w A1 l1.length l1) (hc1 : l1.length ≤ c1) (h : spec_l03Great.f k l0 l1 a2 = some r) :
  Calls Try.prog 27 #[.slice A0 l0.length c0, .slice A1 l1.length c1, .int .i64 a2] w fun e w' => ∃ v0_ : Value, e = .returned (v0_) ∧ Kd.S (Kd.slice 2 (Kd.int .i64)) 64 w' w.heap.size (fun _ => True) v0_ r ∧ Below w.heap.size w w' := by
 have HR0 := Aside0.mk hr0
 have HC0 := Aside0.mk hc0
 clear hr0 hc0
 have HR1 := Aside0.mk hr1
 have HC1 := Aside0.mk hc1
 clear hr1 hc1
 have HB := Aside0.mk (Below.refl w.heap.size w)
 have H : (spec_l03Great.l0 k l0 l1 a2 (([] : List (List Int))) 0) = some r := h
 clear h
 obtain ⟨y437, hy437⟩ : ∃ y_ : List (List Int), y_ = (([] : List (List Int))) := ⟨_, rfl⟩
 replace H : (spec_l03Great.l0 k l0 l1 a2 y437 0) = some r := by first | (rw [hy437]; with_reducible exact H) | (have H2_ := (Option.bind_some _ _).symm.trans H; rw [hy437]; with_reducible exact H2_) | (have H2_ := (Option.bind_some _ _).symm.trans H; with_reducible exact H2_) | with_reducible exact H | (rw [hy437]; exact H) | exact H
 have Ny437 := Aside0.mk hy437
 clear hy437
 have H' := Aside0.mk H
 clear H
 go_enter Try.func27, Try.ntmps27
 go_wp2_with (first | ((with_reducible refine gate_dst (N := 13) rfl ?_); refine Kd.S_lit (Kd.slice 2 (Kd.int .i64)) _ 64 ?hg (N := 13) ?hd (xs := ([] : List (List Int))) (inner := []) (ok := fun _ => True) (okp := fun _ => True) ?hr ?hp (fun _ hk => hk) trivial (Below.refl _ _) (Nat.le_refl _) (by simp) ?_; (case hd => rfl); (case hg => rfl); (case hr => first | (go_simp; done) | (go_simp; rfl)); (case hp => exact (Reps.none _ _)); intro v438 w4 ho5 hb hg_ hnew_; clear hg_ hnew_; (first | rw [← Ny437.out] at ho5 | (simp only [Int.reduceToNat] at ho5; rw [← Ny437.out] at ho5)); have n0_ := Aside0.mk (Kd.S_lower ho5 (below_size (by repeat (first | (with_reducible first | exact HB.out | apply bwA | apply pwN | apply bw1) | exact HB.out)))); have n1_ := Aside0.mk (below_step (by repeat (first | (with_reducible first | exact HB.out | apply bwA | apply pwN | apply bw1) | exact HB.out)) hb); clear HB; have HO439 := n0_; have HB := n1_; clear n0_ n1_; clear hb ho5))
 go_loopg [7, 8] k (fun kq v7 v8 w' => ∃ (x7_1 : List (List Int)) (x8_1 : Int), v8 = .int .i64 x8_1 ∧ Aside0 (spec_l03Great.l0 kq l0 l1 a2 x7_1 x8_1 = some r) ∧ Aside0 (kq ≤ k) ∧ Aside0 (Kd.S (Kd.slice 2 (Kd.int .i64)) 64 w' w.heap.size (fun _ => True) v7 x7_1) ∧ Aside0 (Below w.heap.size w w'))
 case atStart => exact ⟨(y437), (0), (by first | rfl | (simp; done) | (simp [*]; done)), H', ⟨Nat.le_refl _⟩, ⟨by (with_reducible repeat (first | apply Kd.S_alloc | apply Kd.S_drewN | apply Kd.S_drew)); exact HO439.out⟩, ⟨by repeat (first | (with_reducible first | exact HB.out | apply bwA | apply pwN | apply bw1) | exact HB.out)⟩⟩
 case round =>
  clear H'
  try clear c1
  try clear c2
  try clear p2
  obtain ⟨x7_1, x8_1, rfl, HA, HK1, HO_7, HB⟩ := hrel
  cases gk with
  | zero => exact absurd HA.out (by simp [spec_l03Great.l0])
  | succ k1 =>
   have H := HA.out
   clear HA
   simp only [spec_l03Great.l0] at H
   by_cases c6 : x8_1 ≤ a2
   ·rw [if_pos c6] at H
    have c6b0 : decide (x8_1 ≤ a2) = true := decide_eq_true c6
    clear c6
    obtain ⟨ji7, hji7⟩ : ∃ j_ : Int, (wrap64 ((l0.length : Int) + 1)) = j_ := ⟨_, rfl⟩
    replace H : (if 0 ≤ (ji7) then (if (ji7 : Int).toNat ≤ 35184372088832 then (spec_l03Great.l1 k1 l0 l1 a2 x7_1 x8_1 (List.replicate (ji7 : Int).toNat 0) 0) else (none)) else (none)) = some r := by first | (rw [hji7] at H; exact H) | (simp only [hji7] at H ⊢; exact H)
    have hji7w : (IntKind.i64.wrap ((l0.length : Int) + 1)) = ji7 := (i64_w _).trans hji7
    by_cases c8 : 0 ≤ (ji7)
    ·rw [if_pos c8] at H
     have c8b0 := eq_true c8
     have c8b1 : decide (0 ≤ (ji7)) = true := decide_eq_true c8
     clear c8
     by_cases c9 : (ji7 : Int).toNat ≤ 35184372088832
     ·rw [if_pos c9] at H
      have c9b0 := eq_true c9
      have c9b1 : decide ((ji7 : Int).toNat ≤ 35184372088832) = true := decide_eq_true c9
      clear c9
      obtain ⟨y440, hy440⟩ : ∃ y_ : List Int, y_ = (List.replicate (ji7 : Int).toNat 0) := ⟨_, rfl⟩
      replace H : (spec_l03Great.l1 k1 l0 l1 a2 x7_1 x8_1 y440 0) = some r := by first | (rw [hy440]; with_reducible exact H) | (have H2_ := (Option.bind_some _ _).symm.trans H; rw [hy440]; with_reducible exact H2_) | (have H2_ := (Option.bind_some _ _).symm.trans H; with_reducible exact H2_) | with_reducible exact H | (rw [hy440]; exact H) | exact H
      have Ny440 := Aside0.mk hy440
      clear hy440
      have H' := Aside0.mk H
      clear H
      go_wp2_with (first | ((with_reducible refine gate_dst (N := 22) rfl ?_); refine Kd.R_make (Kd.int .i64) _ 2 rfl (N := 22) rfl 64 _ _ rfl ji7 rfl rfl Try.underlying64 (.int .i64 0) 8 info2 rfl (by decide) (by omega) 0 (ok := fun _ => True) (okp := fun _ => True) rfl (fun _ hk => hk) trivial (of_decide_eq_true (by first | (with_reducible assumption) | assumption)) (Nat.le_trans (Nat.mul_le_mul_right _ (of_decide_eq_true (by first | (with_reducible assumption) | assumption) : ji7.toNat ≤ 35184372088832)) (by omega)) (Below.refl _ _) (Nat.le_refl _) ?_; intro v441 w10 ho11 hb hg_ hnew_; clear hg_ hnew_; (first | rw [← Ny440.out] at ho11 | (simp only [Int.reduceToNat] at ho11; rw [← Ny440.out] at ho11)); have n0_ := Aside0.mk (Kd.S_elder' (by (with_reducible repeat (first | apply Kd.S_alloc | apply Kd.S_drewN | apply Kd.S_drew)); exact HO_7.out) (Kd.R_base ho11) hb); have n1_ := Aside0.mk (Kd.R_lower ho11 (below_size (by repeat (first | (with_reducible first | exact HB.out | apply bwA | apply pwN | apply bw1) | exact HB.out)))); have n2_ := Aside0.mk (below_step (by repeat (first | (with_reducible first | exact HB.out | apply bwA | apply pwN | apply bw1) | exact HB.out)) hb); clear HO_7; clear HB; have HO_7 := n0_; have HO442 := n1_; have HB := n2_; clear n0_ n1_ n2_; clear hb ho11))
      go_loopg [10] k1 (fun kq v10 w' => ∃ (x9_2 : List Int) (x10_2 : Int), v10 = .int .i64 x10_2 ∧ Aside0 (spec_l03Great.l1 kq l0 l1 a2 x7_1 x8_1 x9_2 x10_2 = some r) ∧ Aside0 (kq ≤ k1) ∧ Aside0 (Kd.S (Kd.slice 2 (Kd.int .i64)) 64 w' w.heap.size (fun k_ => some k_ ≠ (v441 : Value).ownBlock) u7 x7_1) ∧ Aside0 (Kd.R (Kd.int .i64) 2 w' w.heap.size (fun _ => True) v441 x9_2) ∧ Aside0 (Below w.heap.size w w'))
      case atStart => exact ⟨(y440), (0), (by first | rfl | (simp; done) | (simp [*]; done)), H', ⟨Nat.le_refl _⟩, ⟨by (with_reducible repeat (first | apply Kd.S_alloc | apply Kd.S_drewN | apply Kd.S_drew)); exact Kd.S_mono HO_7.out (fun _ hk => hk.2)⟩, ⟨by (with_reducible repeat (first | apply Kd.R_alloc | apply Kd.R_drewN | apply Kd.R_drew)); exact HO442.out⟩, ⟨by repeat (first | (with_reducible first | exact HB.out | apply bwA | apply pwN | apply bw1) | exact HB.out)⟩⟩
      case round =>
       clear H'
       try clear c1
       try clear c2
       try clear p2
       try clear c6
       try clear c6b0
       try clear p6
       try clear c8
       try clear c8b0
       try clear c8b1
       try clear c9
       try clear c9b0
       try clear c9b1
       try clear p2
       obtain ⟨x9_2, x10_2, rfl, HA, HK2, HO_7, HO_9, HB⟩ := hrel
       cases gk with
       | zero => exact absurd HA.out (by simp [spec_l03Great.l1])
       | succ k2 =>
        have H := HA.out
        clear HA
        simp only [spec_l03Great.l1] at H
        have HC12 := Aside0.mk H
        clear H
        go_upto_region 7 with (fail)
        go_cut [30] (fun v30 wc => ∃ (kq : Nat) (x30_11 : Bool), v30 = .bool x30_11 ∧ Aside0 (spec_l03Great.j2 kq l0 l1 a2 x7_1 x8_1 x9_2 x10_2 x30_11 = some r) ∧ Aside0 (kq ≤ k2) ∧ Aside0 (Kd.S (Kd.slice 2 (Kd.int .i64)) 64 wc w.heap.size (fun k_ => some k_ ≠ (v441 : Value).ownBlock) u7 x7_1) ∧ Aside0 (Kd.R (Kd.int .i64) 2 wc w.heap.size (fun _ => True) v441 x9_2) ∧ Aside0 (Below w.heap.size w wc))
        case first =>
         have H := HC12.out
         clear HC12
         by_cases c13 : x10_2 ≤ (l0.length : Int)
         ·rw [if_pos c13] at H
          have c13b0 : decide (x10_2 ≤ (l0.length : Int)) = true := decide_eq_true c13
          clear c13
          (first | rw [c13b0] | (simp only [i64_w, i32_w]; rw [c13b0]) | skip)
          have H' := Aside0.mk H
          clear H
          go_wp2
          go_meet
          case rel => exact ⟨_, (decide (x8_1 > 0)), (by first | rfl | (simp; done) | (simp [*]; done)), H', ⟨by have := HK1.out; have := HK2.out; first | omega | exact Nat.le_refl _⟩, ⟨by (with_reducible repeat (first | apply Kd.S_alloc | apply Kd.S_drewN | apply Kd.S_drew)); exact HO_7.out⟩, ⟨by (with_reducible repeat (first | apply Kd.R_alloc | apply Kd.R_drewN | apply Kd.R_drew)); exact HO_9.out⟩, ⟨by repeat (first | (with_reducible first | exact HB.out | apply bwA | apply pwN | apply bw1) | exact HB.out)⟩⟩
         ·rw [if_neg c13] at H
          have c13b0 : decide (x10_2 ≤ (l0.length : Int)) = false := decide_eq_false c13
          clear c13
          (first | rw [c13b0] | (simp only [i64_w, i32_w]; rw [c13b0]) | skip)
          have H' := Aside0.mk H
          clear H
          go_wp2
          go_meet
          case rel => exact ⟨_, (false), (by first | rfl | (simp; done) | (simp [*]; done)), H', ⟨by have := HK1.out; have := HK2.out; first | omega | exact Nat.le_refl _⟩, ⟨by (with_reducible repeat (first | apply Kd.S_alloc | apply Kd.S_drewN | apply Kd.S_drew)); exact HO_7.out⟩, ⟨by (with_reducible repeat (first | apply Kd.R_alloc | apply Kd.R_drewN | apply Kd.R_drew)); exact HO_9.out⟩, ⟨by repeat (first | (with_reducible first | exact HB.out | apply bwA | apply pwN | apply bw1) | exact HB.out)⟩⟩
        case rest =>
         clear HC12
         try clear c1
         try clear c2
         try clear p2
         try clear c6
         try clear c6b0
         try clear p6
         try clear c8
         try clear c8b0
         try clear c8b1
         try clear c9
         try clear c9b0
         try clear c9b1
         try clear c13
         try clear c13b0
         try clear p2
         try clear p6
         obtain ⟨kq, x30_11, rfl, HA, HJ11, HO_7, HO_9, HB⟩ := hcut
         cases kq with
         | zero => exact absurd HA.out (by simp [spec_l03Great.j2])
         | succ kj11 =>
          have H := HA.out
          clear HA
          simp only [spec_l03Great.j2] at H
          by_cases c14 : x30_11 = true
          ·subst c14
           rw [if_pos rfl] at H
           have H1 := H
           clear H
           have H := H1
           clear H1
           by_cases c15 : 0 ≤ x10_2
           ·rw [if_pos c15] at H
            have c15b0 : decide (0 ≤ x10_2) = true := decide_eq_true c15
            clear c15
            by_cases c16 : x10_2 < (x9_2.length : Int)
            ·rw [if_pos c16] at H
             have c16b0 : decide (x10_2 < (x9_2.length : Int)) = true := decide_eq_true c16
             clear c16
             obtain ⟨y446, hy446⟩ : ∃ y_ : List Int, y_ = (x9_2.set (x10_2 : Int).toNat (-1)) := ⟨_, rfl⟩
             replace H : (spec_l03Great.l2 kj11 l0 l1 a2 x7_1 x8_1 y446 x10_2 0) = some r := by first | (rw [hy446]; with_reducible exact H) | (have H2_ := (Option.bind_some _ _).symm.trans H; rw [hy446]; with_reducible exact H2_) | (have H2_ := (Option.bind_some _ _).symm.trans H; with_reducible exact H2_) | with_reducible exact H | (rw [hy446]; exact H) | exact H
             have Ny446 := Aside0.mk hy446
             clear hy446
             have H' := Aside0.mk H
             clear H
             have p17 : 0 ≤ (x10_2 : Int) := of_decide_eq_true (by first | (with_reducible assumption) | assumption)
             have q17 : (x10_2 : Int) < ((x9_2.length : Int) : Int) := of_decide_eq_true (by first | (with_reducible assumption) | assumption)
             obtain ⟨go17, co17, eo17, gb17, gl17, cl17, HG17⟩ := Kd.R_form HO_9.out (by omega)
             (first | cases eo17 | (injection eo17 with ea_ en_ ec_; (first | subst ea_ | (injection ea_ with ea_; subst ea_)); subst ec_; clear en_))
             have GB17 := Aside0.mk gb17
             have GG17 := Aside0.mk HG17
             clear gb17 gl17 HG17
             obtain ⟨hx17_0, hf17_0⟩ := Kd.R_celln 0 HO_9.out (x10_2 : Int) p17 q17
             replace p17 := eq_true p17
             replace q17 := eq_true q17
             have HP18 := Kd.R_putg HO_9.out (x10_2 : Int) (-1)
             go_wp2_with (first | ((with_reducible refine gate_store (t := 2) (p := 35) rfl ?_); refine store_event (t := 2) (p := 35) (v := ?vo_w19) (w1 := (wc.setCell ⟨go17, (x10_2 : Int).toNat, none⟩ (.int .i64 (-1)))) ?hg ?ho ?hn ?hr ?_; (case ho => rfl); (case hg => rfl); (case hn => rfl); (case hr => first | (go_simp; done) | (go_simp; rfl)); intro w19 hw; have hg : wc.grownBy w19 (some go17) := (by rw [hw]; exact HP18.2); have hp_ : Kd.R (Kd.int .i64) 2 w19 w.heap.size (fun _ => True) (.slice (some ⟨go17, 0, none⟩) x9_2.length co17) y446 := (by rw [hw, Ny446.out]; exact HP18.1); clear HP18; have n0_ := Aside0.mk (Kd.S_after (v := (.slice (some ⟨go17, 0, none⟩) x9_2.length co17)) (v1 := (.slice (some ⟨go17, 0, none⟩) x9_2.length co17)) (ok := (fun _ => True)) (by (with_reducible repeat (first | apply Kd.S_alloc | apply Kd.S_drewN | apply Kd.S_drew)); exact Kd.S_mono HO_7.out (fun _ hk => ⟨trivial, hk⟩)) hg (.inl rfl)); have n1_ := Aside0.mk (hp_); have n2_ := Aside0.mk ((by rw [hw]; exact below_set (HB.out) GB17.out : Below w.heap.size w w19)); clear HO_7; clear HO_9; clear HB; have HO_7 := n0_; have HO_9 := n1_; have HB := n2_; clear n0_ n1_ n2_; clear hg hw hp_))
             go_loopg [11] kj11 (fun kq v11 w' => ∃ (x9_4 : List Int) (x11_4 : Int), v11 = .int .i64 x11_4 ∧ Aside0 (spec_l03Great.l2 kq l0 l1 a2 x7_1 x8_1 x9_4 x10_2 x11_4 = some r) ∧ Aside0 (kq ≤ kj11) ∧ Aside0 (Kd.S (Kd.slice 2 (Kd.int .i64)) 64 w' w.heap.size (fun k_ => some k_ ≠ ((.slice (some ⟨go17, 0, none⟩) x9_2.length co17) : Value).ownBlock) u7 x7_1) ∧ Aside0 (Kd.R (Kd.int .i64) 2 w' w.heap.size (fun _ => True) (.slice (some ⟨go17, 0, none⟩) x9_2.length co17) x9_4) ∧ Aside0 (Below w.heap.size w w'))
             case atStart => exact ⟨(y446), (0), (by first | rfl | (simp; done) | (simp [*]; done)), H', ⟨Nat.le_refl _⟩, ⟨by (with_reducible repeat (first | apply Kd.S_alloc | apply Kd.S_drewN | apply Kd.S_drew)); exact Kd.S_mono HO_7.out (fun _ hk => hk.2)⟩, ⟨by (with_reducible repeat (first | apply Kd.R_alloc | apply Kd.R_drewN | apply Kd.R_drew)); exact HO_9.out⟩, ⟨by repeat (first | (with_reducible first | exact HB.out | apply bwA | apply pwN | apply bw1) | exact HB.out)⟩⟩
             case round =>
              clear H'
              try clear c1
              try clear p1
              try clear q1
              try clear hx1
              try clear c2
              try clear p2
              try clear c6
              try clear c6b0
              try clear p6
              try clear c8
              try clear c8b0
              try clear c8b1
              try clear c9
              try clear c9b0
              try clear c9b1
              try clear c13
              try clear c13b0
              try clear c14
              try clear c15
              try clear c15b0
              try clear c16
              try clear c16b0
              try clear p17
              try clear q17
              try clear hx17
              try clear hf17
              try clear hx17_0
              try clear p17
              try clear p2
              try clear p6
              try clear q17
              obtain ⟨x9_4, x11_4, rfl, HA, HK4, HO_7, HO_9, HB⟩ := hrel
              have hl9_4 := (Kd.R_reads' HO_9.out).1
              rw [hl9_4] at HO_9
              (try simp only [hl9_4])
              (try simp only [hl9_4] at HO_7)
              cases gk with
              | zero => exact absurd HA.out (by simp [spec_l03Great.l2])
              | succ k4 =>
               have H := HA.out
               clear HA
               simp only [spec_l03Great.l2] at H
               by_cases c20 : x11_4 < (l0.length : Int)
               ·rw [if_pos c20] at H
                have c20b0 : decide (x11_4 < (l0.length : Int)) = true := decide_eq_true c20
                clear c20
                by_cases c21 : 0 ≤ x11_4
                ·rw [if_pos c21] at H
                 have c21b0 : decide (0 ≤ x11_4) = true := decide_eq_true c21
                 clear c21
                 by_cases c22 : 0 ≤ x10_2
                 ·rw [if_pos c22] at H
                  have c22b0 : decide (0 ≤ x10_2) = true := decide_eq_true c22
                  clear c22
                  by_cases c23 : x10_2 < (l1.length : Int)
                  ·rw [if_pos c23] at H
                   have c23b0 : decide (x10_2 < (l1.length : Int)) = true := decide_eq_true c23
                   clear c23
                   by_cases c24 : x11_4 < ((rd_L11 l1 x10_2).length : Int)
                   ·rw [if_pos c24] at H
                    have c24b0 : decide (x11_4 < ((rd_L11 l1 x10_2).length : Int)) = true := decide_eq_true c24
                    clear c24
                    obtain ⟨bq25, hbq25⟩ : ∃ b_ : Bool, b_ = (rdOf false (rd_L11 l1 x10_2) x11_4) := ⟨_, rfl⟩
                    replace H : (if bq25 = true then (if (wrap64 (x8_1 - (((rd_T108 l0 x11_4).f0).size : Int))) ≥ 0 then (if 0 ≤ (wrap64 (x8_1 - (((rd_T108 l0 x11_4).f0).size : Int))) then (if (wrap64 (x8_1 - (((rd_T108 l0 x11_4).f0).size : Int))) < (x7_1.length : Int) then (if x11_4 < ((rd_L12 x7_1 (wrap64 (x8_1 - (((rd_T108 l0 x11_4).f0).size : Int)))).length : Int) then (if (rd (rd_L12 x7_1 (wrap64 (x8_1 - (((rd_T108 l0 x11_4).f0).size : Int)))) x11_4) ≥ 0 then (if x10_2 < (x9_4.length : Int) then ((spec_l00Max.f (rd x9_4 x10_2) (wrap64 (((rd_T108 l0 x11_4).f1) + (rd (rd_L12 x7_1 (wrap64 (x8_1 - (((rd_T108 l0 x11_4).f0).size : Int)))) x11_4)))).bind fun t456 => (spec_l03Great.l2 k4 l0 l1 a2 x7_1 x8_1 (x9_4.set (x10_2 : Int).toNat t456) x10_2 (wrap64 (x11_4 + 1)))) else (none)) else (spec_l03Great.l2 k4 l0 l1 a2 x7_1 x8_1 x9_4 x10_2 (wrap64 (x11_4 + 1)))) else (none)) else (none)) else (none)) else (spec_l03Great.l2 k4 l0 l1 a2 x7_1 x8_1 x9_4 x10_2 (wrap64 (x11_4 + 1)))) else (spec_l03Great.l2 k4 l0 l1 a2 x7_1 x8_1 x9_4 x10_2 (wrap64 (x11_4 + 1)))) = some r := by rw [← hbq25] at H; exact H
                    have Nbq25 := Aside0.mk hbq25
                    clear hbq25
                    by_cases c26 : bq25 = true
                    ·subst c26
                     rw [if_pos rfl] at H
                     have H1 := H
                     clear H
                     have H := H1
                     clear H1
                     by_cases c27 : (wrap64 (x8_1 - (((rd_T108 l0 x11_4).f0).size : Int))) ≥ 0
                     ·rw [if_pos c27] at H
                      have c27b0 : decide (0 ≤ (wrap64 (x8_1 - (((rd_T108 l0 x11_4).f0).size : Int)))) = true := decide_eq_true c27
                      clear c27
                      obtain ⟨ji28, hji28⟩ : ∃ j_ : Int, (wrap64 (x8_1 - (((rd_T108 l0 x11_4).f0).size : Int))) = j_ := ⟨_, rfl⟩
                      replace H : (if 0 ≤ (ji28) then (if (ji28) < (x7_1.length : Int) then (if x11_4 < ((rd_L12 x7_1 (ji28)).length : Int) then (if (rd (rd_L12 x7_1 (ji28)) x11_4) ≥ 0 then (if x10_2 < (x9_4.length : Int) then ((spec_l00Max.f (rd x9_4 x10_2) (wrap64 (((rd_T108 l0 x11_4).f1) + (rd (rd_L12 x7_1 (ji28)) x11_4)))).bind fun t456 => (spec_l03Great.l2 k4 l0 l1 a2 x7_1 x8_1 (x9_4.set (x10_2 : Int).toNat t456) x10_2 (wrap64 (x11_4 + 1)))) else (none)) else (spec_l03Great.l2 k4 l0 l1 a2 x7_1 x8_1 x9_4 x10_2 (wrap64 (x11_4 + 1)))) else (none)) else (none)) else (none)) = some r := by first | (rw [hji28] at H; exact H) | (simp only [hji28] at H ⊢; exact H)
                      (try rw [hji28] at c27b0)
                      have hji28w : (IntKind.i64.wrap (x8_1 - (((rd_T108 l0 x11_4).f0).size : Int))) = ji28 := (i64_w _).trans hji28
                      by_cases c29 : 0 ≤ (ji28)
                      ·rw [if_pos c29] at H
                       have c29b0 : decide (0 ≤ (ji28)) = true := decide_eq_true c29
                       clear c29
                       by_cases c30 : (ji28) < (x7_1.length : Int)
                       ·rw [if_pos c30] at H
                        have c30b0 : decide ((ji28) < (x7_1.length : Int)) = true := decide_eq_true c30
                        clear c30
                        by_cases c31 : x11_4 < ((rd_L12 x7_1 (ji28)).length : Int)
                        ·rw [if_pos c31] at H
                         have c31b0 : decide (x11_4 < ((rd_L12 x7_1 (ji28)).length : Int)) = true := decide_eq_true c31
                         clear c31
                         by_cases c32 : (rd (rd_L12 x7_1 (ji28)) x11_4) ≥ 0
                         ·rw [if_pos c32] at H
                          have c32b0 : decide (0 ≤ (rd (rd_L12 x7_1 (ji28)) x11_4)) = true := decide_eq_true c32
                          clear c32
                          by_cases c33 : x10_2 < (x9_4.length : Int)
                          ·rw [if_pos c33] at H
                           have c33b0 : decide (x10_2 < (x9_4.length : Int)) = true := decide_eq_true c33
                           clear c33
                           replace H := Option.bind_eq_some_iff.mp H
                           obtain ⟨t456, A340, H⟩ := H
                           (try dsimp only at H)
                           have A34 := Aside0.mk A340
                           clear A340
                           obtain ⟨y457, hy457⟩ : ∃ y_ : List Int, y_ = (x9_4.set (x10_2 : Int).toNat t456) := ⟨_, rfl⟩
                           replace H : (spec_l03Great.l2 k4 l0 l1 a2 x7_1 x8_1 y457 x10_2 (wrap64 (x11_4 + 1))) = some r := by first | (rw [hy457]; with_reducible exact H) | (have H2_ := (Option.bind_some _ _).symm.trans H; rw [hy457]; with_reducible exact H2_) | (have H2_ := (Option.bind_some _ _).symm.trans H; with_reducible exact H2_) | with_reducible exact H | (rw [hy457]; exact H) | exact H
                           have Ny457 := Aside0.mk hy457
                           clear hy457
                           have H' := Aside0.mk H
                           clear H
                           have p447 : 0 ≤ (x11_4 : Int) := of_decide_eq_true (by first | (with_reducible assumption) | assumption)
                           have q447 : x11_4 < (l0.length : Int) := of_decide_eq_true (by first | (with_reducible assumption) | assumption)
                           obtain ⟨ad447, e447, hx447_0, hx447_1⟩ := at_T108 HR0.out x11_4 p447 q447
                           cases e447
                           replace hx447_0 := (HB.out.cell (World.block_lt_of_cell? w _ hx447_0)).trans hx447_0
                           replace hx447_1 := (HB.out.cell (World.block_lt_of_cell? w _ hx447_1)).trans hx447_1
                           replace p447 := eq_true p447
                           replace q447 := eq_true q447
                           have p448 : 0 ≤ (x10_2 : Int) := of_decide_eq_true (by first | (with_reducible assumption) | assumption)
                           have q448 : x10_2 < (l1.length : Int) := of_decide_eq_true (by first | (with_reducible assumption) | assumption)
                           obtain ⟨ad448, A448_0, c448_0, e448, hx448_0, hl448_0, hi448_0⟩ := at_L11 HR1.out x10_2 p448 q448
                           cases e448
                           replace hx448_0 := (HB.out.cell (World.block_lt_of_cell? w _ hx448_0)).trans hx448_0
                           have HR448_0 := Aside0.mk hi448_0
                           have HC448_0 := Aside0.mk hl448_0
                           clear hi448_0 hl448_0
                           replace p448 := eq_true p448
                           replace q448 := eq_true q448
                           have p449 : 0 ≤ (x11_4 : Int) := of_decide_eq_true (by first | (with_reducible assumption) | assumption)
                           have q449 : x11_4 < ((rd_L11 l1 x10_2).length : Int) := of_decide_eq_true (by first | (with_reducible assumption) | assumption)
                           obtain ⟨ad449, e449, hx449_0⟩ := Kd.at_bool HR448_0.out x11_4 p449 q449
                           (try rw [← Nbq25.out] at hx449_0)
                           cases e449
                           replace hx449_0 := (HB.out.cell (World.block_lt_of_cell? w _ hx449_0)).trans hx449_0
                           replace p449 := eq_true p449
                           replace q449 := eq_true q449
                           obtain ⟨Ao36, co36, eo36⟩ := Kd.S_slice HO_7.out
                           subst eo36
                           have p450 : 0 ≤ ((ji28) : Int) := of_decide_eq_true (by first | (with_reducible assumption) | assumption)
                           have q450 : (ji28) < (x7_1.length : Int) := of_decide_eq_true (by first | (with_reducible assumption) | assumption)
                           obtain ⟨ad450, A450_0, c450_0, e450, hx450_0, hl450_0, hi450_0⟩ := at_L12 (Kd.S_reads' HO_7.out).2.2 (ji28) p450 q450
                           cases e450
                           obtain ⟨ce450, hce450, hMe450, hcc450⟩ := Kd.S_get HO_7.out [] (ji28) p450 (by first | exact q450 | exact of_decide_eq_true (by first | (with_reducible assumption) | assumption) | (have e_ := (Kd.S_reads' HO_7.out).1; omega))
                           obtain ⟨ve450_0, rfl, ge450_0⟩ := hMe450
                           have hv450_0 := hcc450 0 _ rfl
                           rw [Nat.add_zero, show ((Kd.slice 2 (Kd.int .i64))).sz = 1 from rfl, Nat.mul_one] at hv450_0
                           replace hv450_0 := Option.some.inj (hv450_0.symm.trans hx450_0)
                           rw [hv450_0] at ge450_0
                           have HL450_0 := Aside0.mk (show Kd.R (Kd.int .i64) 2 _ _ _ _ (rd_L12 x7_1 (ji28)) from ge450_0)
                           clear hv450_0 ge450_0
                           clear hcc450 hce450
                           have HR450_0 := Aside0.mk hi450_0
                           have HC450_0 := Aside0.mk hl450_0
                           clear hi450_0 hl450_0
                           replace p450 := eq_true p450
                           replace q450 := eq_true q450
                           have p451 : 0 ≤ (x11_4 : Int) := of_decide_eq_true (by first | (with_reducible assumption) | assumption)
                           have q451 : x11_4 < ((rd_L12 x7_1 (ji28)).length : Int) := of_decide_eq_true (by first | (with_reducible assumption) | assumption)
                           obtain ⟨ad451, e451, hx451_0⟩ := Kd.at_int (by repeat (first | (with_reducible exact HR450_0.out) | (with_reducible refine Kd.C_alloc ?_ _) | (with_reducible refine Kd.C_drewN ?_ _) | (with_reducible refine Kd.C_drew ?_) | exact HR450_0.out)) x11_4 p451 q451
                           cases e451
                           replace p451 := eq_true p451
                           replace q451 := eq_true q451
                           try go_wp2
                           have n0_ := Aside0.mk (Kd.S_drew HO_7.out)
                           have n1_ := Aside0.mk (Kd.R_drew HO_9.out)
                           have n2_ := Aside0.mk (Kd.R_drew HL450_0.out)
                           have n3_ := Aside0.mk (Kd.C_drew HR450_0.out)
                           have n4_ := Aside0.mk (bw1 HB.out)
                           clear HO_7
                           clear HO_9
                           clear HL450_0
                           clear HR450_0
                           clear HB
                           have HO_7 := n0_
                           have HO_9 := n1_
                           have HL450_0 := n2_
                           have HR450_0 := n3_
                           have HB := n4_
                           clear n0_ n1_ n2_ n3_ n4_
                           have p452 : 0 ≤ (x10_2 : Int) := of_decide_eq_true (by first | (with_reducible assumption) | assumption)
                           have q452 : x10_2 < (x9_4.length : Int) := of_decide_eq_true (by first | (with_reducible assumption) | assumption)
                           obtain ⟨ad452, e452, hx452_0⟩ := Kd.at_int (Kd.R_reads' HO_9.out).2.2 x10_2 p452 q452
                           obtain rfl : (⟨go17, 0, none⟩ : Addr) = ad452 := (by injection e452)
                           (first | simp only [add_plain] at hx452_0 | simp only [add_at] at hx452_0 | simp only [Addr.add, Nat.zero_add] at hx452_0 | skip)
                           replace p452 := eq_true p452
                           replace q452 := eq_true q452
                           have p453 : 0 ≤ (x11_4 : Int) := of_decide_eq_true (by first | (with_reducible assumption) | assumption)
                           have q453 : x11_4 < (l0.length : Int) := of_decide_eq_true (by first | (with_reducible assumption) | assumption)
                           obtain ⟨ad453, e453, hx453_0, hx453_1⟩ := at_T108 HR0.out x11_4 p453 q453
                           have hw453_1 := hx453_1
                           have hw453_0 := hx453_0
                           obtain rfl : ad447 = ad453 := (by injection e453)
                           replace hx453_0 := (HB.out.cell (World.block_lt_of_cell? w _ hx453_0)).trans hx453_0
                           replace hx453_1 := (HB.out.cell (World.block_lt_of_cell? w _ hx453_1)).trans hx453_1
                           replace p453 := eq_true p453
                           replace q453 := eq_true q453
                           have p454 : 0 ≤ ((ji28) : Int) := of_decide_eq_true (by first | (with_reducible assumption) | assumption)
                           have q454 : (ji28) < (x7_1.length : Int) := of_decide_eq_true (by first | (with_reducible assumption) | assumption)
                           obtain ⟨ad454, A454_0, c454_0, e454, hx454_0, hl454_0, hi454_0⟩ := at_L12 (Kd.S_reads' HO_7.out).2.2 (ji28) p454 q454
                           obtain rfl : ad450 = ad454 := (by injection e454)
                           obtain ⟨ce454, hce454, hMe454, hcc454⟩ := Kd.S_get HO_7.out [] (ji28) p454 (by first | exact q454 | exact of_decide_eq_true (by first | (with_reducible assumption) | assumption) | (have e_ := (Kd.S_reads' HO_7.out).1; omega))
                           obtain ⟨ve454_0, rfl, ge454_0⟩ := hMe454
                           have hv454_0 := hcc454 0 _ rfl
                           rw [Nat.add_zero, show ((Kd.slice 2 (Kd.int .i64))).sz = 1 from rfl, Nat.mul_one] at hv454_0
                           replace hv454_0 := Option.some.inj (hv454_0.symm.trans hx454_0)
                           rw [hv454_0] at ge454_0
                           have HL454_0 := Aside0.mk (show Kd.R (Kd.int .i64) 2 _ _ _ _ (rd_L12 x7_1 (ji28)) from ge454_0)
                           clear hv454_0 ge454_0
                           clear hcc454 hce454
                           have HR454_0 := Aside0.mk hi454_0
                           have HC454_0 := Aside0.mk hl454_0
                           clear hi454_0 hl454_0
                           replace p454 := eq_true p454
                           replace q454 := eq_true q454
                           have p455 : 0 ≤ (x11_4 : Int) := of_decide_eq_true (by first | (with_reducible assumption) | assumption)
                           have q455 : x11_4 < ((rd_L12 x7_1 (ji28)).length : Int) := of_decide_eq_true (by first | (with_reducible assumption) | assumption)
                           obtain ⟨ad455, e455, hx455_0⟩ := Kd.at_int (by repeat (first | (with_reducible exact HR454_0.out) | (with_reducible refine Kd.C_alloc ?_ _) | (with_reducible refine Kd.C_drewN ?_ _) | (with_reducible refine Kd.C_drew ?_) | exact HR454_0.out)) x11_4 p455 q455
                           cases e455
                           replace p455 := eq_true p455
                           replace q455 := eq_true q455
                           refine start_ (n := 22) (S := fun w' => w'.cell? ⟨go17, (x10_2).toNat, none⟩ = some (.int .i64 (rd x9_4 x10_2)) ∧ w'.cell? (ad447.add ((x11_4).toNat * 2)) = some (.string ((rd_T108 l0 x11_4).f0)) ∧ w'.cell? ⟨(ad447.add ((x11_4).toNat * 2)).block, (ad447.add ((x11_4).toNat * 2)).off + 1, none⟩ = some (.int .i64 ((rd_T108 l0 x11_4).f1)) ∧ w'.cell? (ad450.add ((ji28)).toNat) = some (.slice (some ad455) (rd_L12 x7_1 (ji28)).length c454_0) ∧ w'.cell? (ad455.add (x11_4).toNat) = some (.int .i64 (rd (rd_L12 x7_1 (ji28)) x11_4))) (ds := [21]) #[false, false, false, false, false, false, false, false, false, false, false, false, false, false, false, false, false, false, false, false, false, false] (by kernel_rfl) rfl rfl ⟨hx452_0, ((HB.out.cell (World.block_lt_of_cell? w _ hw453_0)).trans hw453_0), ((HB.out.cell (World.block_lt_of_cell? w _ hw453_1)).trans hw453_1), hx454_0, hx455_0⟩ (fun hHeld => ?_); refine with_tabW spec_l03Great.tab15 spec_l03Great.bits15 (fun HT_ HW_ => ?_)
                           generalize wr.drew = w37 at HO_7 HO_9 HL450_0 HR450_0 HB HL454_0 HR454_0 hx452_0 hx453_0 hx453_1 hx454_0 hx455_0 hHeld ⊢
                           refine pu_ 0 (some 71) HT_ ?_
                           refine pu_ 1 (some 72) HT_ ?_
                           refine pu_ 2 (some 73) HT_ ?_
                           refine pu_ 3 (some 74) HT_ ?_
                           refine pu_ 4 (some 75) HT_ ?_
                           refine pu_ 6 (some 77) HT_ ?_
                           refine pu_ 7 (some 78) HT_ ?_
                           refine pu_ 8 (some 79) HT_ ?_
                           refine pu_ 9 (some 80) HT_ ?_
                           refine pu_ 11 (some 82) HT_ ?_
                           refine pu_ 12 (some 83) HT_ ?_
                           refine pu_ 13 (some 84) HT_ ?_
                           refine pu_ 15 (some 86) HT_ ?_
                           refine tk_ 5 (some 76) HT_ HW_ hHeld rfl (by rintro w' ⟨s0, s1, s2, s3, s4⟩; go_simp; with_reducible rfl) ?_
                           refine tk_ 10 (some 81) HT_ HW_ hHeld rfl (by rintro w' ⟨s0, s1, s2, s3, s4⟩; go_simp; with_reducible rfl) ?_
                           refine tk_ 14 (some 85) HT_ HW_ hHeld rfl (by rintro w' ⟨s0, s1, s2, s3, s4⟩; go_simp; with_reducible rfl) ?_
                           refine pu_ 16 (some 87) HT_ ?_
                           refine tk_ 17 (some 88) HT_ HW_ hHeld rfl (by rintro w' ⟨s0, s1, s2, s3, s4⟩; go_simp; with_reducible rfl) ?_
                           refine pu_ 18 (some 89) HT_ ?_
                           refine on_ 19 (some 90) HT_ fun K hK => ?_
                           refine goes_ Try.func56 (by kernel_rfl) rfl #[.int .i64 (rd x9_4 x10_2), .int .i64 (wrap64 (((rd_T108 l0 x11_4).f1) + (rd (rd_L12 x7_1 (ji28)) x11_4)))] (by rfl) rfl rfl (by (try simp only [List.map_toArray, List.map_cons, List.map_nil]); first | done | (simp only [hji28]; rfl) | rfl | (simp only [List.length_drop, List.length_take]; rfl)) ?_
                           with_reducible refine (spec_l00Max.calls (rd x9_4 x10_2) (wrap64 (((rd_T108 l0 x11_4).f1) + (rd (rd_L12 x7_1 (ji28)) x11_4))) t456 _ A34.out).mono ?_
                           rintro e w' ⟨rfl, ⟨nd, rfl⟩⟩
                           refine ⟨_, rfl, ?_⟩
                           have p35 : 0 ≤ (x10_2 : Int) := of_decide_eq_true (by first | (with_reducible assumption) | assumption)
                           have q35 : (x10_2 : Int) < ((x9_4.length : Int) : Int) := of_decide_eq_true (by first | (with_reducible assumption) | assumption)
                           obtain ⟨hx35_0, hf35_0⟩ := Kd.R_celln 0 HO_9.out (x10_2 : Int) p35 q35
                           replace p35 := eq_true p35
                           replace q35 := eq_true q35
                           have HP38 := Kd.R_putn HO_9.out (x10_2 : Int) t456
                           rw [← Ny457.out] at HP38
                           have HQ38 := Aside0.mk HP38
                           clear HP38
                           refine hK.out _ _ ⟨hHeld.1, ((HB.out.cell (World.block_lt_of_cell? w _ hw453_0)).trans hw453_0), ((HB.out.cell (World.block_lt_of_cell? w _ hw453_1)).trans hw453_1), hHeld.2.2.2.1, hHeld.2.2.2.2⟩ (fun hHeld => ?_)
                           clear hK K
                           refine nm_ (some 90) ?_
                           refine pu_ 20 (some 91) HT_ ?_
                           refine la_ 21 (none) HT_ fun K hK => ?_
                           refine skip_ (w1 := ?_) (by rfl) rfl ?_ ?_
                           rotate_left
                           ·go_simp
                            rfl
                           refine hK.out _ _ ?_
                           clear hK K
                           refine done_ (done_of HT_.out (by kernel_rfl)) ?_
                           try go_wp2
                           (try simp only [← hl9_4])
                           go_roundg k4
                           case measure => have := HK1.out; have := HK2.out; have := HJ11.out; have := HK4.out; omega
                           case rel => exact ⟨(y457), (wrap64 (x11_4 + 1)), (by first | rfl | (simp; done) | (simp [*]; done)), H', ⟨by have := HK1.out; have := HK2.out; have := HJ11.out; have := HK4.out; omega⟩, ⟨by (try simp only [hl9_4]); (with_reducible repeat (first | apply Kd.S_alloc | apply Kd.S_drewN | apply Kd.S_drew)); exact Kd.S_mono (Kd.S_far (p := ⟨go17, (x10_2 : Int).toNat, none⟩) (Kd.S_mono HO_7.out (fun k_ hk => (⟨hk, fun e_ => hk (by rw [e_]; rfl)⟩ : _ ∧ k_ ≠ go17))) (fun _ hk => hk.2) (.int .i64 t456)) (fun _ hk => hk.1)⟩, ⟨by (try simp only [hl9_4]); (with_reducible repeat (first | apply Kd.R_alloc | apply Kd.R_drewN | apply Kd.R_drew)); exact HQ38.out⟩, ⟨by repeat (first | (with_reducible first | exact HB.out | apply bwA | apply pwN | apply bw1 | refine below_set ?_ GB17.out) | exact HB.out)⟩⟩
                          ·rw [if_neg c33] at H
                           exact absurd H (by simp)
                         ·rw [if_neg c32] at H
                          have c32b0 : decide (0 ≤ (rd (rd_L12 x7_1 (ji28)) x11_4)) = false := decide_eq_false c32
                          clear c32
                          have H' := Aside0.mk H
                          clear H
                          have p447 : 0 ≤ (x11_4 : Int) := of_decide_eq_true (by first | (with_reducible assumption) | assumption)
                          have q447 : x11_4 < (l0.length : Int) := of_decide_eq_true (by first | (with_reducible assumption) | assumption)
                          obtain ⟨ad447, e447, hx447_0, hx447_1⟩ := at_T108 HR0.out x11_4 p447 q447
                          cases e447
                          replace hx447_0 := (HB.out.cell (World.block_lt_of_cell? w _ hx447_0)).trans hx447_0
                          replace hx447_1 := (HB.out.cell (World.block_lt_of_cell? w _ hx447_1)).trans hx447_1
                          replace p447 := eq_true p447
                          replace q447 := eq_true q447
                          have p448 : 0 ≤ (x10_2 : Int) := of_decide_eq_true (by first | (with_reducible assumption) | assumption)
                          have q448 : x10_2 < (l1.length : Int) := of_decide_eq_true (by first | (with_reducible assumption) | assumption)
                          obtain ⟨ad448, A448_0, c448_0, e448, hx448_0, hl448_0, hi448_0⟩ := at_L11 HR1.out x10_2 p448 q448
                          cases e448
                          replace hx448_0 := (HB.out.cell (World.block_lt_of_cell? w _ hx448_0)).trans hx448_0
                          have HR448_0 := Aside0.mk hi448_0
                          have HC448_0 := Aside0.mk hl448_0
                          clear hi448_0 hl448_0
                          replace p448 := eq_true p448
                          replace q448 := eq_true q448
                          have p449 : 0 ≤ (x11_4 : Int) := of_decide_eq_true (by first | (with_reducible assumption) | assumption)
                          have q449 : x11_4 < ((rd_L11 l1 x10_2).length : Int) := of_decide_eq_true (by first | (with_reducible assumption) | assumption)
                          obtain ⟨ad449, e449, hx449_0⟩ := Kd.at_bool HR448_0.out x11_4 p449 q449
                          (try rw [← Nbq25.out] at hx449_0)
                          cases e449
                          replace hx449_0 := (HB.out.cell (World.block_lt_of_cell? w _ hx449_0)).trans hx449_0
                          replace p449 := eq_true p449
                          replace q449 := eq_true q449
                          obtain ⟨Ao39, co39, eo39⟩ := Kd.S_slice HO_7.out
                          subst eo39
                          have p450 : 0 ≤ ((ji28) : Int) := of_decide_eq_true (by first | (with_reducible assumption) | assumption)
                          have q450 : (ji28) < (x7_1.length : Int) := of_decide_eq_true (by first | (with_reducible assumption) | assumption)
                          obtain ⟨ad450, A450_0, c450_0, e450, hx450_0, hl450_0, hi450_0⟩ := at_L12 (Kd.S_reads' HO_7.out).2.2 (ji28) p450 q450
                          cases e450
                          obtain ⟨ce450, hce450, hMe450, hcc450⟩ := Kd.S_get HO_7.out [] (ji28) p450 (by first | exact q450 | exact of_decide_eq_true (by first | (with_reducible assumption) | assumption) | (have e_ := (Kd.S_reads' HO_7.out).1; omega))
                          obtain ⟨ve450_0, rfl, ge450_0⟩ := hMe450
                          have hv450_0 := hcc450 0 _ rfl
                          rw [Nat.add_zero, show ((Kd.slice 2 (Kd.int .i64))).sz = 1 from rfl, Nat.mul_one] at hv450_0
                          replace hv450_0 := Option.some.inj (hv450_0.symm.trans hx450_0)
                          rw [hv450_0] at ge450_0
                          have HL450_0 := Aside0.mk (show Kd.R (Kd.int .i64) 2 _ _ _ _ (rd_L12 x7_1 (ji28)) from ge450_0)
                          clear hv450_0 ge450_0
                          clear hcc450 hce450
                          have HR450_0 := Aside0.mk hi450_0
                          have HC450_0 := Aside0.mk hl450_0
                          clear hi450_0 hl450_0
                          replace p450 := eq_true p450
                          replace q450 := eq_true q450
                          have p451 : 0 ≤ (x11_4 : Int) := of_decide_eq_true (by first | (with_reducible assumption) | assumption)
                          have q451 : x11_4 < ((rd_L12 x7_1 (ji28)).length : Int) := of_decide_eq_true (by first | (with_reducible assumption) | assumption)
                          obtain ⟨ad451, e451, hx451_0⟩ := Kd.at_int (by repeat (first | (with_reducible exact HR450_0.out) | (with_reducible refine Kd.C_alloc ?_ _) | (with_reducible refine Kd.C_drewN ?_ _) | (with_reducible refine Kd.C_drew ?_) | exact HR450_0.out)) x11_4 p451 q451
                          cases e451
                          replace p451 := eq_true p451
                          replace q451 := eq_true q451
                          go_wp2
                          (try simp only [← hl9_4])
                          go_roundg k4
                          case measure => have := HK1.out; have := HK2.out; have := HJ11.out; have := HK4.out; omega
                          case rel => exact ⟨(x9_4), (wrap64 (x11_4 + 1)), (by first | rfl | (simp; done) | (simp [*]; done)), H', ⟨by have := HK1.out; have := HK2.out; have := HJ11.out; have := HK4.out; omega⟩, ⟨by (try simp only [hl9_4]); (with_reducible repeat (first | apply Kd.S_alloc | apply Kd.S_drewN | apply Kd.S_drew)); exact HO_7.out⟩, ⟨by (try simp only [hl9_4]); (with_reducible repeat (first | apply Kd.R_alloc | apply Kd.R_drewN | apply Kd.R_drew)); exact HO_9.out⟩, ⟨by repeat (first | (with_reducible first | exact HB.out | apply bwA | apply pwN | apply bw1) | exact HB.out)⟩⟩
                        ·rw [if_neg c31] at H
                         exact absurd H (by simp)
                       ·rw [if_neg c30] at H
                        exact absurd H (by simp)
                      ·rw [if_neg c29] at H
                       exact absurd H (by simp)
                     ·rw [if_neg c27] at H
                      have c27b0 : decide (0 ≤ (wrap64 (x8_1 - (((rd_T108 l0 x11_4).f0).size : Int)))) = false := decide_eq_false c27
                      clear c27
                      have H' := Aside0.mk H
                      clear H
                      have p447 : 0 ≤ (x11_4 : Int) := of_decide_eq_true (by first | (with_reducible assumption) | assumption)
                      have q447 : x11_4 < (l0.length : Int) := of_decide_eq_true (by first | (with_reducible assumption) | assumption)
                      obtain ⟨ad447, e447, hx447_0, hx447_1⟩ := at_T108 HR0.out x11_4 p447 q447
                      cases e447
                      replace hx447_0 := (HB.out.cell (World.block_lt_of_cell? w _ hx447_0)).trans hx447_0
                      replace hx447_1 := (HB.out.cell (World.block_lt_of_cell? w _ hx447_1)).trans hx447_1
                      replace p447 := eq_true p447
                      replace q447 := eq_true q447
                      have p448 : 0 ≤ (x10_2 : Int) := of_decide_eq_true (by first | (with_reducible assumption) | assumption)
                      have q448 : x10_2 < (l1.length : Int) := of_decide_eq_true (by first | (with_reducible assumption) | assumption)
                      obtain ⟨ad448, A448_0, c448_0, e448, hx448_0, hl448_0, hi448_0⟩ := at_L11 HR1.out x10_2 p448 q448
                      cases e448
                      replace hx448_0 := (HB.out.cell (World.block_lt_of_cell? w _ hx448_0)).trans hx448_0
                      have HR448_0 := Aside0.mk hi448_0
                      have HC448_0 := Aside0.mk hl448_0
                      clear hi448_0 hl448_0
                      replace p448 := eq_true p448
                      replace q448 := eq_true q448
                      have p449 : 0 ≤ (x11_4 : Int) := of_decide_eq_true (by first | (with_reducible assumption) | assumption)
                      have q449 : x11_4 < ((rd_L11 l1 x10_2).length : Int) := of_decide_eq_true (by first | (with_reducible assumption) | assumption)
                      obtain ⟨ad449, e449, hx449_0⟩ := Kd.at_bool HR448_0.out x11_4 p449 q449
                      (try rw [← Nbq25.out] at hx449_0)
                      cases e449
                      replace hx449_0 := (HB.out.cell (World.block_lt_of_cell? w _ hx449_0)).trans hx449_0
                      replace p449 := eq_true p449
                      replace q449 := eq_true q449
                      go_wp2
                      (try simp only [← hl9_4])
                      go_roundg k4
                      case measure => have := HK1.out; have := HK2.out; have := HJ11.out; have := HK4.out; omega
                      case rel => exact ⟨(x9_4), (wrap64 (x11_4 + 1)), (by first | rfl | (simp; done) | (simp [*]; done)), H', ⟨by have := HK1.out; have := HK2.out; have := HJ11.out; have := HK4.out; omega⟩, ⟨by (try simp only [hl9_4]); (with_reducible repeat (first | apply Kd.S_alloc | apply Kd.S_drewN | apply Kd.S_drew)); exact HO_7.out⟩, ⟨by (try simp only [hl9_4]); (with_reducible repeat (first | apply Kd.R_alloc | apply Kd.R_drewN | apply Kd.R_drew)); exact HO_9.out⟩, ⟨by repeat (first | (with_reducible first | exact HB.out | apply bwA | apply pwN | apply bw1) | exact HB.out)⟩⟩
                    ·replace c26 := Bool.eq_false_iff.mpr c26
                     subst c26
                     rw [if_neg (show ¬ (false = true) by decide)] at H
                     have H1 := H
                     clear H
                     have H := H1
                     clear H1
                     have H' := Aside0.mk H
                     clear H
                     have p447 : 0 ≤ (x11_4 : Int) := of_decide_eq_true (by first | (with_reducible assumption) | assumption)
                     have q447 : x11_4 < (l0.length : Int) := of_decide_eq_true (by first | (with_reducible assumption) | assumption)
                     obtain ⟨ad447, e447, hx447_0, hx447_1⟩ := at_T108 HR0.out x11_4 p447 q447
                     cases e447
                     replace hx447_0 := (HB.out.cell (World.block_lt_of_cell? w _ hx447_0)).trans hx447_0
                     replace hx447_1 := (HB.out.cell (World.block_lt_of_cell? w _ hx447_1)).trans hx447_1
                     replace p447 := eq_true p447
                     replace q447 := eq_true q447
                     have p448 : 0 ≤ (x10_2 : Int) := of_decide_eq_true (by first | (with_reducible assumption) | assumption)
                     have q448 : x10_2 < (l1.length : Int) := of_decide_eq_true (by first | (with_reducible assumption) | assumption)
                     obtain ⟨ad448, A448_0, c448_0, e448, hx448_0, hl448_0, hi448_0⟩ := at_L11 HR1.out x10_2 p448 q448
                     cases e448
                     replace hx448_0 := (HB.out.cell (World.block_lt_of_cell? w _ hx448_0)).trans hx448_0
                     have HR448_0 := Aside0.mk hi448_0
                     have HC448_0 := Aside0.mk hl448_0
                     clear hi448_0 hl448_0
                     replace p448 := eq_true p448
                     replace q448 := eq_true q448
                     have p449 : 0 ≤ (x11_4 : Int) := of_decide_eq_true (by first | (with_reducible assumption) | assumption)
                     have q449 : x11_4 < ((rd_L11 l1 x10_2).length : Int) := of_decide_eq_true (by first | (with_reducible assumption) | assumption)
                     obtain ⟨ad449, e449, hx449_0⟩ := Kd.at_bool HR448_0.out x11_4 p449 q449
                     (try rw [← Nbq25.out] at hx449_0)
                     cases e449
                     replace hx449_0 := (HB.out.cell (World.block_lt_of_cell? w _ hx449_0)).trans hx449_0
                     replace p449 := eq_true p449
                     replace q449 := eq_true q449
                     go_wp2
                     (try simp only [← hl9_4])
                     go_roundg k4
                     case measure => have := HK1.out; have := HK2.out; have := HJ11.out; have := HK4.out; omega
                     case rel => exact ⟨(x9_4), (wrap64 (x11_4 + 1)), (by first | rfl | (simp; done) | (simp [*]; done)), H', ⟨by have := HK1.out; have := HK2.out; have := HJ11.out; have := HK4.out; omega⟩, ⟨by (try simp only [hl9_4]); (with_reducible repeat (first | apply Kd.S_alloc | apply Kd.S_drewN | apply Kd.S_drew)); exact HO_7.out⟩, ⟨by (try simp only [hl9_4]); (with_reducible repeat (first | apply Kd.R_alloc | apply Kd.R_drewN | apply Kd.R_drew)); exact HO_9.out⟩, ⟨by repeat (first | (with_reducible first | exact HB.out | apply bwA | apply pwN | apply bw1) | exact HB.out)⟩⟩
                   ·rw [if_neg c24] at H
                    exact absurd H (by simp)
                  ·rw [if_neg c23] at H
                   exact absurd H (by simp)
                 ·rw [if_neg c22] at H
                  exact absurd H (by simp)
                ·rw [if_neg c21] at H
                 exact absurd H (by simp)
               ·rw [if_neg c20] at H
                have c20b0 : decide (x11_4 < (l0.length : Int)) = false := decide_eq_false c20
                clear c20
                have H' := Aside0.mk H
                clear H
                go_wp2
                (try simp only [← hl9_4])
                go_roundg k4
                case measure => have := HK1.out; have := HK2.out; have := HJ11.out; have := HK4.out; omega
                case rel => exact ⟨(x9_4), (wrap64 (x10_2 + 1)), (by first | rfl | (simp; done) | (simp [*]; done)), H', ⟨by have := HK1.out; have := HK2.out; have := HJ11.out; have := HK4.out; omega⟩, ⟨by (try simp only [hl9_4]); (with_reducible repeat (first | apply Kd.S_alloc | apply Kd.S_drewN | apply Kd.S_drew)); exact HO_7.out⟩, ⟨by (try simp only [hl9_4]); (with_reducible repeat (first | apply Kd.R_alloc | apply Kd.R_drewN | apply Kd.R_drew)); exact HO_9.out⟩, ⟨by repeat (first | (with_reducible first | exact HB.out | apply bwA | apply pwN | apply bw1) | exact HB.out)⟩⟩
            ·rw [if_neg c16] at H
             exact absurd H (by simp)
           ·rw [if_neg c15] at H
            exact absurd H (by simp)
          ·replace c14 := Bool.eq_false_iff.mpr c14
           subst c14
           rw [if_neg (show ¬ (false = true) by decide)] at H
           have H1 := H
           clear H
           have H := H1
           clear H1
           by_cases c40 : x7_1.length < 5864062014805
           ·rw [if_pos c40] at H
            have LMc40 := Aside0.mk c40
            clear c40
            obtain ⟨y443, hy443⟩ : ∃ y_ : List (List Int), y_ = (x7_1 ++ [x9_2]) := ⟨_, rfl⟩
            replace H : (spec_l03Great.l0 kj11 l0 l1 a2 y443 (wrap64 (x8_1 + 1))) = some r := by first | (rw [hy443]; with_reducible exact H) | (have H2_ := (Option.bind_some _ _).symm.trans H; rw [hy443]; with_reducible exact H2_) | (have H2_ := (Option.bind_some _ _).symm.trans H; with_reducible exact H2_) | with_reducible exact H | (rw [hy443]; exact H) | exact H
            have Ny443 := Aside0.mk hy443
            clear hy443
            have H' := Aside0.mk H
            clear H
            obtain ⟨Ao42, co42, eo42⟩ := Kd.R_slice HO_9.out
            subst eo42
            go_wp2_with (first | ((with_reducible refine gate_builtin (b := .append) (xs := #[.tmp 92, .tmp 94]) rfl ?_); at_builtin; refine Kd.S_append (Kd.slice 2 (Kd.int .i64)) (w0 := w) w.heap.size rfl (.tmp 92) (.tmp 94) 62 64 (.slice none 0 0) 24 rfl Try.underlying62 info64 rfl (by decide) (by omega) u7 x7_1 x9_2 [.slice Ao42 x9_2.length co42] (fun _ => True) (fun k_ => some k_ = (.slice Ao42 x9_2.length co42 : Value).ownBlock) rfl rfl ?aP (fun k_ hk_ => ((Kd.R_mono (ok' := fun k_ => ((fun _ => True)) k_ ∧ some k_ ≠ (u7 : Value).ownBlock) (Kd.R_apart' (HO_9.out) (Kd.S_typed HO_7.out) (by decide)) (fun k_ hk => ⟨trivial, hk.2⟩))).1 k_ hk_.symm) ?aF ?aO ?aB ?aS ?aL ?_; (case aP => exact Kd.M_row (Kd.R_mono (Kd.R_tight rfl (Kd.R_mono (ok' := fun k_ => ((fun _ => True)) k_ ∧ some k_ ≠ (u7 : Value).ownBlock) (Kd.R_apart' (HO_9.out) (Kd.S_typed HO_7.out) (by decide)) (fun k_ hk => ⟨trivial, hk.2⟩))) (fun _ h_ => h_))); (case aB => exact (by repeat (first | (with_reducible first | exact HB.out | apply bwA | apply pwN | apply bw1) | exact HB.out))); (case aF => exact (fun _ _ => trivial)); (case aO => exact (by (with_reducible repeat (first | apply Kd.S_alloc | apply Kd.S_drewN | apply Kd.S_drew)); exact Kd.S_mono HO_7.out (fun k_ hk => ⟨trivial, fun e_ => hk e_⟩))); (case aS => exact (below_size (by repeat (first | (with_reducible first | exact HB.out | apply bwA | apply pwN | apply bw1) | exact HB.out)))); (case aL => have := LMc40.out; omega); intro v444 w41 ho hb hg hat; rw [← Ny443.out] at ho; have n0_ := Aside0.mk (hb); have n1_ := Aside0.mk (ho); clear HB; clear HO_7; clear HO_9; have HB := n0_; have HO445 := n1_; clear n0_ n1_; clear ho hb hg hat))
            go_roundg kj11
            case measure => have := HK1.out; have := HK2.out; have := HJ11.out; omega
            case rel => exact ⟨(y443), (wrap64 (x8_1 + 1)), (by first | rfl | (simp; done) | (simp [*]; done)), H', ⟨by have := HK1.out; have := HK2.out; have := HJ11.out; omega⟩, ⟨by (with_reducible repeat (first | apply Kd.S_alloc | apply Kd.S_drewN | apply Kd.S_drew)); exact HO445.out⟩, ⟨by repeat (first | (with_reducible first | exact HB.out | apply bwA | apply pwN | apply bw1) | exact HB.out)⟩⟩
           ·rw [if_neg c40] at H
            exact absurd H (by simp)
     ·rw [if_neg c9] at H
      exact absurd H (by simp)
    ·rw [if_neg c8] at H
     exact absurd H (by simp)
   ·rw [if_neg c6] at H
    have c6b0 : decide (x8_1 ≤ a2) = false := decide_eq_false c6
    clear c6
    obtain rfl := Option.some.inj H
    go_wp2
    go_ret
    exact ⟨_, by first | rfl | (simp [errW_none, errW_some] <;> rfl) | (simp [*, errW_none, errW_some] <;> rfl), by (with_reducible repeat (first | apply Kd.S_alloc | apply Kd.S_drewN | apply Kd.S_drew)); exact HO_7.out, by repeat (first | (with_reducible first | exact HB.out | apply bwA | apply pwN | apply bw1) | exact HB.out)⟩
end Go.Proofs.Ytlepbhlbooajmaa.Q
namespace Go.Proofs.Ytlepbhlbooajmaa.Ext
end Go.Proofs.Ytlepbhlbooajmaa.Ext
namespace Go.Proofs.Ytlepbhlbooajmaa.Q
open Go.Proofs.Ytlepbhlbooajmaa.Ext
open Go.RowKit Go.Proofs.YtlepbhlbooajmaaW.PrintWords Go.Proofs.YtlepbhlbooajmaaW.PrintLast Go.Proofs.YtlepbhlbooajmaaW.PrintMore
attribute [local go_sem] max2_int min2_int max_two min_two max_three min_three max_four min_four
set_option linter.unusedVariables false
set_option linter.unusedSimpArgs false
mutual
def spec_l03Greatest.l0 : Nat → List (S108) → List (List Bool) → List (List Int) → Int → Int → ByteArray → Int → Option (ByteArray)
 | 0, _, _, _, _, _, _, _ => none
 | k + 1, x0, x1, x2, x3, x4, x11, x12 => if x12 < (x0.length : Int) then (if 0 ≤ x12 then (if 0 ≤ x4 then (if x4 < (x1.length : Int) then (if x12 < ((rd_L11 x1 x4).length : Int) then (if (rdOf false (rd_L11 x1 x4) x12 = true) then (if (wrap64 (x3 - (((rd_T108 x0 x12).f0).size : Int))) < 0 then (spec_l03Greatest.j1 k x0 x1 x2 x3 x4 x11 x12 (wrap64 (x3 - (((rd_T108 x0 x12).f0).size : Int))) true) else (if 0 ≤ (wrap64 (x3 - (((rd_T108 x0 x12).f0).size : Int))) then (if (wrap64 (x3 - (((rd_T108 x0 x12).f0).size : Int))) < (x2.length : Int) then (if x12 < ((rd_L12 x2 (wrap64 (x3 - (((rd_T108 x0 x12).f0).size : Int)))).length : Int) then (if (rd (rd_L12 x2 (wrap64 (x3 - (((rd_T108 x0 x12).f0).size : Int)))) x12) < 0 then (spec_l03Greatest.j1 k x0 x1 x2 x3 x4 x11 x12 (wrap64 (x3 - (((rd_T108 x0 x12).f0).size : Int))) true) else (if 0 ≤ x3 then (if x3 < (x2.length : Int) then (if x4 < ((rd_L12 x2 x3).length : Int) then (spec_l03Greatest.j1 k x0 x1 x2 x3 x4 x11 x12 (wrap64 (x3 - (((rd_T108 x0 x12).f0).size : Int))) ((wrap64 (((rd_T108 x0 x12).f1) + (rd (rd_L12 x2 (wrap64 (x3 - (((rd_T108 x0 x12).f0).size : Int)))) x12))) != (rd (rd_L12 x2 x3) x4))) else (none)) else (none)) else (none))) else (none)) else (none)) else (none))) else (spec_l03Greatest.j1 k x0 x1 x2 x3 x4 x11 x12 (wrap64 (x3 - (((rd_T108 x0 x12).f0).size : Int))) true)) else (none)) else (none)) else (none)) else (none)) else (some x11)
def spec_l03Greatest.j1 : Nat → List (S108) → List (List Bool) → List (List Int) → Int → Int → ByteArray → Int → Int → Bool → Option (ByteArray)
 | 0, _, _, _, _, _, _, _, _, _ => none
 | k + 1, x0, x1, x2, x3, x4, x11, x12, x13, x75 => if x75 = true then (spec_l03Greatest.l0 k x0 x1 x2 x3 x4 x11 (wrap64 (x12 + 1))) else (if 0 ≤ x12 then (if x12 < (x0.length : Int) then ((spec_l03Greatest.f k x0 x1 x2 x13 x12).bind fun t469 => (if ((rd_T108 x0 x12).f0).size + t469.size ≤ 9223372036854775807 then (if x11.toList = ([] : List UInt8) then (spec_l03Greatest.l0 k x0 x1 x2 x3 x4 (((rd_T108 x0 x12).f0) ++ t469) (wrap64 (x12 + 1))) else (if (Op.bytesLess ((((rd_T108 x0 x12).f0) ++ t469).toList) x11.toList) = true then (spec_l03Greatest.l0 k x0 x1 x2 x3 x4 (((rd_T108 x0 x12).f0) ++ t469) (wrap64 (x12 + 1))) else (spec_l03Greatest.l0 k x0 x1 x2 x3 x4 x11 (wrap64 (x12 + 1))))) else (none))) else (none)) else (none))
def spec_l03Greatest.f : Nat → List (S108) → List (List Bool) → List (List Int) → Int → Int → Option (ByteArray)
 | 0, _, _, _, _, _ => none
 | k + 1, l0, l1, l2, a3, a4 => if a3 = 0 then (some (⟨#[]⟩ : ByteArray)) else (spec_l03Greatest.l0 k l0 l1 l2 a3 a4 (⟨#[]⟩ : ByteArray) 0)
end
def spec_l03Greatest.T8 : Bool × List (List Nat × List Nat) := (true, [([], []), ([], []), ([0, 1], [0, 1]), ([2], [2]), ([], []), ([3, 4], [3, 4]), ([5], [5]), ([6], [6]), ([7], [7]), ([8], [8]), ([9, 8], [8, 9]), ([8, 10], [8, 10]), ([11, 8], [11]), ([12], [12]), ([12], [12]), ([13, 14, 12], [12, 13, 14]), ([15, 12], [12, 15]), ([12], [12]), ([16, 17, 12], [12, 16, 17]), ([18, 12], [12, 18]), ([19, 12], [12, 19]), ([12, 20], [12, 20]), ([21, 12], [21]), ([22], [22]), ([22], [22]), ([23, 24, 22], [22, 23, 24]), ([25, 22], [22, 25]), ([26, 22], [22, 26]), ([22], [22]), ([22], [22]), ([28, 29, 22], [22, 28, 29]), ([30, 22], [22, 30]), ([22], [22]), ([31, 32, 22], [22, 31, 32]), ([33, 22], [22, 33]), ([27, 34, 22], [22, 27, 34]), ([22], [22]), ([22], [22]), ([36, 37, 22], [22, 36, 37]), ([38, 22], [22, 38]), ([22], [22]), ([39, 40, 22], [22, 39, 40]), ([41, 22], [22, 41]), ([35, 42, 22], [22, 35, 42]), ([22, 43], [22, 43])])
def spec_l03Greatest.B8 : List Nat := [0, 0, 3, 7, 0, 31, 63, 127, 255, 511, 1023, 2047, 4095, 8191, 8191, 32767, 65535, 8191, 262143, 524287, 1048575, 2097151, 4194303, 8388607, 8388607, 33554431, 67108863, 134217727, 8388607, 8388607, 813694975, 1887436799, 8388607, 8329887743, 16919822335, 34359738367, 8388607, 8388607, 206166818815, 481044725759, 8388607, 2130312167423, 4329335422975, 8796093022207, 17592186044415]
theorem spec_l03Greatest.tab8 : rtab .any (opsOf Try.f28 8) = spec_l03Greatest.T8 := by kernel_rfl
theorem spec_l03Greatest.bits8 : waitsOk spec_l03Greatest.T8.2 spec_l03Greatest.B8 = true := by kernel_rfl
def spec_l03Greatest.T9 : Bool × List (List Nat × List Nat) := (true, [([], []), ([], []), ([0, 1], [0, 1]), ([2], [2]), ([3], [3]), ([], []), ([], []), ([], []), ([], []), ([], []), ([5, 6, 7, 8, 9], [5, 6, 7, 8, 9]), ([4, 10], [4, 10]), ([11, 10, 0, 1, 2, 3, 4, 5, 6, 7, 8, 9, 10, 11], [11])])
def spec_l03Greatest.B9 : List Nat := [0, 0, 3, 7, 15, 0, 0, 0, 0, 0, 992, 2047, 4095]
theorem spec_l03Greatest.tab9 : rtab .any (opsOf Try.f28 9) = spec_l03Greatest.T9 := by kernel_rfl
theorem spec_l03Greatest.bits9 : waitsOk spec_l03Greatest.T9.2 spec_l03Greatest.B9 = true := by kernel_rfl
set_option maxHeartbeats 8000000 in
set_option maxRecDepth 100000 in
theorem spec_l03Greatest.calls (k : Nat) : ∀ (A0 : Option Addr) (c0 : Nat) (l0 : List (S108)) (A1 : Option Addr) (c1 : Nat) (l1 : List (List Bool)) (A2 : Option Addr) (c2 : Nat) (l2 : List (List Int)) (a3 : Int) (a4 : Int) (r : ByteArray) (w : World) (hr0 : Kd.C k108 w A0 l0.length l0) (hc0 : l0.length ≤ c0) (hr1 : Kd.C (Kd.slice 4 Kd.bool) w A1 l1.length l1) (hc1 : l1.length ≤ c1) (hr2 : Kd.C (Kd.slice 2 (Kd.int .i64)) w A2 l2.length l2) (hc2 : l2.length ≤ c2) (h : spec_l03Greatest.f k l0 l1 l2 a3 a4 = some r),
  Calls Try.prog 28 #[.slice A0 l0.length c0, .slice A1 l1.length c1, .slice A2 l2.length c2, .int .i64 a3, .int .i64 a4] w fun e w' => e = .returned (.string r) ∧ Below w.heap.size w w' := by
 induction k using Nat.strongRecOn with
 | _ k ih =>
 intro A0 c0 l0 A1 c1 l1 A2 c2 l2 a3 a4 r w hr0 hc0 hr1 hc1 hr2 hc2 h
 cases k with
 | zero => exact absurd h (by simp [spec_l03Greatest.f])
 | succ k =>
 simp only [spec_l03Greatest.f] at h
 have HR0 := Aside0.mk hr0
 have HC0 := Aside0.mk hc0
 clear hr0 hc0
 have HR1 := Aside0.mk hr1
 have HC1 := Aside0.mk hc1
 clear hr1 hc1
 have HR2 := Aside0.mk hr2
 have HC2 := Aside0.mk hc2
 clear hr2 hc2
 have HB := Aside0.mk (Below.refl w.heap.size w)
 have H : (if a3 = 0 then (some (⟨#[]⟩ : ByteArray)) else (spec_l03Greatest.l0 k l0 l1 l2 a3 a4 (⟨#[]⟩ : ByteArray) 0)) = some r := h
 clear h
 by_cases c6 : a3 = 0
 ·rw [if_pos c6] at H
  have c6b0 : (a3 == 0) = true := beq_iff_eq.mpr c6
  have c6b1 : (a3 != 0) = false := bne_eq_false_iff_eq.mpr c6
  clear c6
  obtain rfl := Option.some.inj H
  go_enter Try.func28, Try.ntmps28
  go_wp2
  go_ret
  exact ⟨by first | rfl | (simp [errW_none, errW_some, i64_w]; done) | (simp [errW_none, errW_some] <;> rfl) | (simp [*, errW_none, errW_some] <;> rfl), by repeat (first | (with_reducible first | exact HB.out | apply bwA | apply pwN | apply bw1) | exact HB.out)⟩
 ·rw [if_neg c6] at H
  have c6b0 : (a3 == 0) = false := beq_eq_false_iff_ne.mpr c6
  have c6b1 : (a3 != 0) = true := bne_iff_ne.mpr c6
  have H' := Aside0.mk H
  clear H
  go_enter Try.func28, Try.ntmps28
  go_wp2
  go_loopg [11, 12] k (fun kq v11 v12 w' => ∃ (x11_1 : ByteArray) (x12_1 : Int), v11 = .string x11_1 ∧ v12 = .int .i64 x12_1 ∧ Aside0 (spec_l03Greatest.l0 kq l0 l1 l2 a3 a4 x11_1 x12_1 = some r) ∧ Aside0 (kq ≤ k) ∧ Aside0 (Below w.heap.size w w'))
  case atStart => exact ⟨((⟨#[]⟩ : ByteArray)), (0), (by first | rfl | (simp; done) | (simp [*]; done)), (by first | rfl | (simp; done) | (simp [*]; done)), H', ⟨Nat.le_refl _⟩, ⟨by repeat (first | (with_reducible first | exact HB.out | apply bwA | apply pwN | apply bw1) | exact HB.out)⟩⟩
  case round =>
   clear H'
   try clear c1
   try clear c2
   try clear p2
   try clear c6
   try clear c6b0
   try clear c6b1
   obtain ⟨x11_1, x12_1, rfl, rfl, HA, HK1, HB⟩ := hrel
   cases gk with
   | zero => exact absurd HA.out (by simp [spec_l03Greatest.l0])
   | succ k1 =>
    have H := HA.out
    clear HA
    simp only [spec_l03Greatest.l0] at H
    by_cases c7 : x12_1 < (l0.length : Int)
    ·rw [if_pos c7] at H
     have c7b0 : decide (x12_1 < (l0.length : Int)) = true := decide_eq_true c7
     clear c7
     by_cases c8 : 0 ≤ x12_1
     ·rw [if_pos c8] at H
      have c8b0 : decide (0 ≤ x12_1) = true := decide_eq_true c8
      clear c8
      have HC9 := Aside0.mk H
      clear H
      have p458 : 0 ≤ (x12_1 : Int) := of_decide_eq_true (by first | (with_reducible assumption) | assumption)
      have q458 : x12_1 < (l0.length : Int) := of_decide_eq_true (by first | (with_reducible assumption) | assumption)
      obtain ⟨ad458, e458, hx458_0, hx458_1⟩ := at_T108 HR0.out x12_1 p458 q458
      cases e458
      replace hx458_0 := (HB.out.cell (World.block_lt_of_cell? w _ hx458_0)).trans hx458_0
      replace hx458_1 := (HB.out.cell (World.block_lt_of_cell? w _ hx458_1)).trans hx458_1
      replace p458 := eq_true p458
      replace q458 := eq_true q458
      go_upto_region 8 with (fail)
      go_cut [75] (fun v75 wc => ∃ (kq : Nat) (x75_8 : Bool), v75 = .bool x75_8 ∧ Aside0 (spec_l03Greatest.j1 kq l0 l1 l2 a3 a4 x11_1 x12_1 (wrap64 (a3 - (((rd_T108 l0 x12_1).f0).size : Int))) x75_8 = some r) ∧ Aside0 (kq ≤ k1) ∧ Aside0 (Below w.heap.size w wc))
      case first =>
       have H := HC9.out
       clear HC9
       by_cases c10 : 0 ≤ a4
       ·rw [if_pos c10] at H
        have c10b0 : decide (0 ≤ a4) = true := decide_eq_true c10
        clear c10
        (first | rw [c10b0] | (simp only [i64_w, i32_w]; rw [c10b0]) | skip)
        by_cases c11 : a4 < (l1.length : Int)
        ·rw [if_pos c11] at H
         have c11b0 : decide (a4 < (l1.length : Int)) = true := decide_eq_true c11
         clear c11
         by_cases c12 : x12_1 < ((rd_L11 l1 a4).length : Int)
         ·rw [if_pos c12] at H
          have c12b0 : decide (x12_1 < ((rd_L11 l1 a4).length : Int)) = true := decide_eq_true c12
          clear c12
          obtain ⟨bq13, hbq13⟩ : ∃ b_ : Bool, b_ = (rdOf false (rd_L11 l1 a4) x12_1) := ⟨_, rfl⟩
          replace H : (if (bq13 = true) then (if (wrap64 (a3 - (((rd_T108 l0 x12_1).f0).size : Int))) < 0 then (spec_l03Greatest.j1 k1 l0 l1 l2 a3 a4 x11_1 x12_1 (wrap64 (a3 - (((rd_T108 l0 x12_1).f0).size : Int))) true) else (if 0 ≤ (wrap64 (a3 - (((rd_T108 l0 x12_1).f0).size : Int))) then (if (wrap64 (a3 - (((rd_T108 l0 x12_1).f0).size : Int))) < (l2.length : Int) then (if x12_1 < ((rd_L12 l2 (wrap64 (a3 - (((rd_T108 l0 x12_1).f0).size : Int)))).length : Int) then (if (rd (rd_L12 l2 (wrap64 (a3 - (((rd_T108 l0 x12_1).f0).size : Int)))) x12_1) < 0 then (spec_l03Greatest.j1 k1 l0 l1 l2 a3 a4 x11_1 x12_1 (wrap64 (a3 - (((rd_T108 l0 x12_1).f0).size : Int))) true) else (if 0 ≤ a3 then (if a3 < (l2.length : Int) then (if a4 < ((rd_L12 l2 a3).length : Int) then (spec_l03Greatest.j1 k1 l0 l1 l2 a3 a4 x11_1 x12_1 (wrap64 (a3 - (((rd_T108 l0 x12_1).f0).size : Int))) ((wrap64 (((rd_T108 l0 x12_1).f1) + (rd (rd_L12 l2 (wrap64 (a3 - (((rd_T108 l0 x12_1).f0).size : Int)))) x12_1))) != (rd (rd_L12 l2 a3) a4))) else (none)) else (none)) else (none))) else (none)) else (none)) else (none))) else (spec_l03Greatest.j1 k1 l0 l1 l2 a3 a4 x11_1 x12_1 (wrap64 (a3 - (((rd_T108 l0 x12_1).f0).size : Int))) true)) = some r := by rw [← hbq13] at H; exact H
          have Nbq13 := Aside0.mk hbq13
          clear hbq13
          by_cases c14 : (bq13 = true)
          ·subst c14
           rw [if_pos rfl] at H
           have H1 := H
           clear H
           have H := H1
           clear H1
           by_cases c15 : (wrap64 (a3 - (((rd_T108 l0 x12_1).f0).size : Int))) < 0
           ·rw [if_pos c15] at H
            have c15b0 : decide ((wrap64 (a3 - (((rd_T108 l0 x12_1).f0).size : Int))) < 0) = true := decide_eq_true c15
            clear c15
            have H' := Aside0.mk H
            clear H
            try go_wp2
            have n0_ := Aside0.mk (bw1 HB.out)
            clear HB
            have HB := n0_
            clear n0_
            have p459 : 0 ≤ (a4 : Int) := of_decide_eq_true (by first | (with_reducible assumption) | assumption)
            have q459 : a4 < (l1.length : Int) := of_decide_eq_true (by first | (with_reducible assumption) | assumption)
            obtain ⟨ad459, A459_0, c459_0, e459, hx459_0, hl459_0, hi459_0⟩ := at_L11 HR1.out a4 p459 q459
            have hw459_0 := hx459_0
            cases e459
            replace hx459_0 := (HB.out.cell (World.block_lt_of_cell? w _ hx459_0)).trans hx459_0
            have HR459_0 := Aside0.mk hi459_0
            have HC459_0 := Aside0.mk hl459_0
            clear hi459_0 hl459_0
            replace p459 := eq_true p459
            replace q459 := eq_true q459
            have p460 : 0 ≤ (x12_1 : Int) := of_decide_eq_true (by first | (with_reducible assumption) | assumption)
            have q460 : x12_1 < ((rd_L11 l1 a4).length : Int) := of_decide_eq_true (by first | (with_reducible assumption) | assumption)
            obtain ⟨ad460, e460, hx460_0⟩ := Kd.at_bool HR459_0.out x12_1 p460 q460
            (try rw [← Nbq13.out] at hx460_0)
            have hw460_0 := hx460_0
            cases e460
            replace hx460_0 := (HB.out.cell (World.block_lt_of_cell? w _ hx460_0)).trans hx460_0
            replace p460 := eq_true p460
            replace q460 := eq_true q460
            refine start_ (n := 45) (S := fun w' => w'.cell? (ad459.add (a4).toNat) = some (.slice (some ad460) (rd_L11 l1 a4).length c459_0) ∧ w'.cell? (ad460.add (x12_1).toNat) = some (.bool true)) (ds := []) #[false, false, false, false, false, false, false, false, false, false, false, false, false, false, false, false, false, false, false, false, false, false, false, false, false, false, false, false, false, false, false, false, false, false, false, false, false, false, false, false, false, false, false, false, false] (by kernel_rfl) rfl rfl ⟨((HB.out.cell (World.block_lt_of_cell? w _ hw459_0)).trans hw459_0), ((HB.out.cell (World.block_lt_of_cell? w _ hw460_0)).trans hw460_0)⟩ (fun hHeld => ?_); refine with_tabW spec_l03Greatest.tab8 spec_l03Greatest.bits8 (fun HT_ HW_ => ?_)
            generalize wr.drew = w16 at HB HR459_0 hx459_0 hx460_0 hHeld ⊢
            refine pu_ 0 (some 31) HT_ ?_
            refine pu_ 1 (some 32) HT_ ?_
            refine pu_ 2 (some 33) HT_ ?_
            refine pu_ 4 (some 35) HT_ ?_
            refine tk_ 3 (some 34) HT_ HW_ hHeld rfl (by rintro w' ⟨s0, s1⟩; go_simp; with_reducible rfl) ?_
            refine pu_ 5 (some 36) HT_ ?_
            refine tk_ 6 (some 37) HT_ HW_ hHeld rfl (by rintro w' ⟨s0, s1⟩; go_simp; with_reducible rfl) ?_
            refine pu_ 7 (some 38) HT_ ?_
            refine pu_ 8 (some 39) HT_ ?_
            refine pu_ 9 (some 40) HT_ ?_
            refine pu_ 10 (some 41) HT_ ?_
            refine pu_ 11 (some 42) HT_ ?_
            refine pu_ 12 (some 43) HT_ ?_
            refine pure_ (i := 13) (N := some 44) (v := undef) (a' := ?_) #[true, true, true, true, true, true, true, true, true, true, true, true, true, true, false, false, false, false, false, false, false, false, false, false, false, false, false, false, false, false, false, false, false, false, false, false, false, false, false, false, false, false, false, false, false] rfl rfl (any_of HT_.out (by kernel_rfl)) (fun _ _ _ h => h) (Or.inr ⟨by rfl, rfl⟩) ?_ ?_
            rotate_left
            ·simp only [Act.put, List.setIfInBounds_toArray, List.set_cons_zero, List.set_cons_succ, i64_w, i32_w, u8_w_]
             rfl
            refine pure_ (i := 14) (N := some 45) (v := undef) (a' := ?_) #[true, true, true, true, true, true, true, true, true, true, true, true, true, true, true, false, false, false, false, false, false, false, false, false, false, false, false, false, false, false, false, false, false, false, false, false, false, false, false, false, false, false, false, false, false] rfl rfl (any_of HT_.out (by kernel_rfl)) (fun _ _ _ h => h) (Or.inr ⟨by rfl, rfl⟩) ?_ ?_
            rotate_left
            ·simp only [Act.put, List.setIfInBounds_toArray, List.set_cons_zero, List.set_cons_succ, i64_w, i32_w, u8_w_]
             rfl
            refine pure_ (i := 15) (N := some 46) (v := undef) (a' := ?_) #[true, true, true, true, true, true, true, true, true, true, true, true, true, true, true, true, false, false, false, false, false, false, false, false, false, false, false, false, false, false, false, false, false, false, false, false, false, false, false, false, false, false, false, false, false] rfl rfl (any_of HT_.out (by kernel_rfl)) (fun _ _ _ h => h) (Or.inr ⟨by rfl, rfl⟩) ?_ ?_
            rotate_left
            ·simp only [Act.put, List.setIfInBounds_toArray, List.set_cons_zero, List.set_cons_succ, i64_w, i32_w, u8_w_]
             rfl
            refine pure_ (i := 16) (N := some 47) (v := undef) (a' := ?_) #[true, true, true, true, true, true, true, true, true, true, true, true, true, true, true, true, true, false, false, false, false, false, false, false, false, false, false, false, false, false, false, false, false, false, false, false, false, false, false, false, false, false, false, false, false] rfl rfl (any_of HT_.out (by kernel_rfl)) (fun _ _ _ h => h) (Or.inr ⟨by rfl, rfl⟩) ?_ ?_
            rotate_left
            ·simp only [Act.put, List.setIfInBounds_toArray, List.set_cons_zero, List.set_cons_succ, i64_w, i32_w, u8_w_]
             rfl
            refine pure_ (i := 17) (N := some 48) (v := undef) (a' := ?_) #[true, true, true, true, true, true, true, true, true, true, true, true, true, true, true, true, true, true, false, false, false, false, false, false, false, false, false, false, false, false, false, false, false, false, false, false, false, false, false, false, false, false, false, false, false] rfl rfl (any_of HT_.out (by kernel_rfl)) (fun _ _ _ h => h) (Or.inr ⟨by rfl, rfl⟩) ?_ ?_
            rotate_left
            ·simp only [Act.put, List.setIfInBounds_toArray, List.set_cons_zero, List.set_cons_succ, i64_w, i32_w, u8_w_]
             rfl
            refine pure_ (i := 18) (N := some 49) (v := undef) (a' := ?_) #[true, true, true, true, true, true, true, true, true, true, true, true, true, true, true, true, true, true, true, false, false, false, false, false, false, false, false, false, false, false, false, false, false, false, false, false, false, false, false, false, false, false, false, false, false] rfl rfl (any_of HT_.out (by kernel_rfl)) (fun _ _ _ h => h) (Or.inr ⟨by rfl, rfl⟩) ?_ ?_
            rotate_left
            ·simp only [Act.put, List.setIfInBounds_toArray, List.set_cons_zero, List.set_cons_succ, i64_w, i32_w, u8_w_]
             rfl
            refine pure_ (i := 19) (N := some 50) (v := undef) (a' := ?_) #[true, true, true, true, true, true, true, true, true, true, true, true, true, true, true, true, true, true, true, true, false, false, false, false, false, false, false, false, false, false, false, false, false, false, false, false, false, false, false, false, false, false, false, false, false] rfl rfl (any_of HT_.out (by kernel_rfl)) (fun _ _ _ h => h) (Or.inr ⟨by rfl, rfl⟩) ?_ ?_
            rotate_left
            ·simp only [Act.put, List.setIfInBounds_toArray, List.set_cons_zero, List.set_cons_succ, i64_w, i32_w, u8_w_]
             rfl
            refine pure_ (i := 20) (N := some 51) (v := undef) (a' := ?_) #[true, true, true, true, true, true, true, true, true, true, true, true, true, true, true, true, true, true, true, true, true, false, false, false, false, false, false, false, false, false, false, false, false, false, false, false, false, false, false, false, false, false, false, false, false] rfl rfl (any_of HT_.out (by kernel_rfl)) (fun _ _ _ h => h) (Or.inr ⟨by rfl, rfl⟩) ?_ ?_
            rotate_left
            ·simp only [Act.put, List.setIfInBounds_toArray, List.set_cons_zero, List.set_cons_succ, i64_w, i32_w, u8_w_]
             rfl
            refine pu_ 21 (some 52) HT_ ?_
            refine pu_ 22 (some 53) HT_ ?_
            refine pure_ (i := 23) (N := some 54) (v := undef) (a' := ?_) #[true, true, true, true, true, true, true, true, true, true, true, true, true, true, true, true, true, true, true, true, true, true, true, true, false, false, false, false, false, false, false, false, false, false, false, false, false, false, false, false, false, false, false, false, false] rfl rfl (any_of HT_.out (by kernel_rfl)) (fun _ _ _ h => h) (Or.inr ⟨by rfl, rfl⟩) ?_ ?_
            rotate_left
            ·simp only [Act.put, List.setIfInBounds_toArray, List.set_cons_zero, List.set_cons_succ, i64_w, i32_w, u8_w_]
             rfl
            refine pure_ (i := 24) (N := some 55) (v := undef) (a' := ?_) #[true, true, true, true, true, true, true, true, true, true, true, true, true, true, true, true, true, true, true, true, true, true, true, true, true, false, false, false, false, false, false, false, false, false, false, false, false, false, false, false, false, false, false, false, false] rfl rfl (any_of HT_.out (by kernel_rfl)) (fun _ _ _ h => h) (Or.inr ⟨by rfl, rfl⟩) ?_ ?_
            rotate_left
            ·simp only [Act.put, List.setIfInBounds_toArray, List.set_cons_zero, List.set_cons_succ, i64_w, i32_w, u8_w_]
             rfl
            refine pure_ (i := 25) (N := some 56) (v := undef) (a' := ?_) #[true, true, true, true, true, true, true, true, true, true, true, true, true, true, true, true, true, true, true, true, true, true, true, true, true, true, false, false, false, false, false, false, false, false, false, false, false, false, false, false, false, false, false, false, false] rfl rfl (any_of HT_.out (by kernel_rfl)) (fun _ _ _ h => h) (Or.inr ⟨by rfl, rfl⟩) ?_ ?_
            rotate_left
            ·simp only [Act.put, List.setIfInBounds_toArray, List.set_cons_zero, List.set_cons_succ, i64_w, i32_w, u8_w_]
             rfl
            refine pure_ (i := 26) (N := some 57) (v := undef) (a' := ?_) #[true, true, true, true, true, true, true, true, true, true, true, true, true, true, true, true, true, true, true, true, true, true, true, true, true, true, true, false, false, false, false, false, false, false, false, false, false, false, false, false, false, false, false, false, false] rfl rfl (any_of HT_.out (by kernel_rfl)) (fun _ _ _ h => h) (Or.inr ⟨by rfl, rfl⟩) ?_ ?_
            rotate_left
            ·simp only [Act.put, List.setIfInBounds_toArray, List.set_cons_zero, List.set_cons_succ, i64_w, i32_w, u8_w_]
             rfl
            refine pure_ (i := 27) (N := some 58) (v := undef) (a' := ?_) #[true, true, true, true, true, true, true, true, true, true, true, true, true, true, true, true, true, true, true, true, true, true, true, true, true, true, true, true, false, false, false, false, false, false, false, false, false, false, false, false, false, false, false, false, false] rfl rfl (any_of HT_.out (by kernel_rfl)) (fun _ _ _ h => h) (Or.inr ⟨by rfl, rfl⟩) ?_ ?_
            rotate_left
            ·simp only [Act.put, List.setIfInBounds_toArray, List.set_cons_zero, List.set_cons_succ, i64_w, i32_w, u8_w_]
             rfl
            refine pure_ (i := 28) (N := some 59) (v := undef) (a' := ?_) #[true, true, true, true, true, true, true, true, true, true, true, true, true, true, true, true, true, true, true, true, true, true, true, true, true, true, true, true, true, false, false, false, false, false, false, false, false, false, false, false, false, false, false, false, false] rfl rfl (any_of HT_.out (by kernel_rfl)) (fun _ _ _ h => h) (Or.inr ⟨by rfl, rfl⟩) ?_ ?_
            rotate_left
            ·simp only [Act.put, List.setIfInBounds_toArray, List.set_cons_zero, List.set_cons_succ, i64_w, i32_w, u8_w_]
             rfl
            refine pure_ (i := 29) (N := some 60) (v := undef) (a' := ?_) #[true, true, true, true, true, true, true, true, true, true, true, true, true, true, true, true, true, true, true, true, true, true, true, true, true, true, true, true, true, true, false, false, false, false, false, false, false, false, false, false, false, false, false, false, false] rfl rfl (any_of HT_.out (by kernel_rfl)) (fun _ _ _ h => h) (Or.inr ⟨by rfl, rfl⟩) ?_ ?_
            rotate_left
            ·simp only [Act.put, List.setIfInBounds_toArray, List.set_cons_zero, List.set_cons_succ, i64_w, i32_w, u8_w_]
             rfl
            refine pure_ (i := 30) (N := some 61) (v := undef) (a' := ?_) #[true, true, true, true, true, true, true, true, true, true, true, true, true, true, true, true, true, true, true, true, true, true, true, true, true, true, true, true, true, true, true, false, false, false, false, false, false, false, false, false, false, false, false, false, false] rfl rfl (any_of HT_.out (by kernel_rfl)) (fun _ _ _ h => h) (Or.inr ⟨by rfl, rfl⟩) ?_ ?_
            rotate_left
            ·simp only [Act.put, List.setIfInBounds_toArray, List.set_cons_zero, List.set_cons_succ, i64_w, i32_w, u8_w_]
             rfl
            refine pure_ (i := 31) (N := some 62) (v := undef) (a' := ?_) #[true, true, true, true, true, true, true, true, true, true, true, true, true, true, true, true, true, true, true, true, true, true, true, true, true, true, true, true, true, true, true, true, false, false, false, false, false, false, false, false, false, false, false, false, false] rfl rfl (any_of HT_.out (by kernel_rfl)) (fun _ _ _ h => h) (Or.inr ⟨by rfl, rfl⟩) ?_ ?_
            rotate_left
            ·simp only [Act.put, List.setIfInBounds_toArray, List.set_cons_zero, List.set_cons_succ, i64_w, i32_w, u8_w_]
             rfl
            refine pure_ (i := 32) (N := some 63) (v := undef) (a' := ?_) #[true, true, true, true, true, true, true, true, true, true, true, true, true, true, true, true, true, true, true, true, true, true, true, true, true, true, true, true, true, true, true, true, true, false, false, false, false, false, false, false, false, false, false, false, false] rfl rfl (any_of HT_.out (by kernel_rfl)) (fun _ _ _ h => h) (Or.inr ⟨by rfl, rfl⟩) ?_ ?_
            rotate_left
            ·simp only [Act.put, List.setIfInBounds_toArray, List.set_cons_zero, List.set_cons_succ, i64_w, i32_w, u8_w_]
             rfl
            refine pure_ (i := 33) (N := some 64) (v := undef) (a' := ?_) #[true, true, true, true, true, true, true, true, true, true, true, true, true, true, true, true, true, true, true, true, true, true, true, true, true, true, true, true, true, true, true, true, true, true, false, false, false, false, false, false, false, false, false, false, false] rfl rfl (any_of HT_.out (by kernel_rfl)) (fun _ _ _ h => h) (Or.inr ⟨by rfl, rfl⟩) ?_ ?_
            rotate_left
            ·simp only [Act.put, List.setIfInBounds_toArray, List.set_cons_zero, List.set_cons_succ, i64_w, i32_w, u8_w_]
             rfl
            refine pure_ (i := 34) (N := some 65) (v := undef) (a' := ?_) #[true, true, true, true, true, true, true, true, true, true, true, true, true, true, true, true, true, true, true, true, true, true, true, true, true, true, true, true, true, true, true, true, true, true, true, false, false, false, false, false, false, false, false, false, false] rfl rfl (any_of HT_.out (by kernel_rfl)) (fun _ _ _ h => h) (Or.inr ⟨by rfl, rfl⟩) ?_ ?_
            rotate_left
            ·simp only [Act.put, List.setIfInBounds_toArray, List.set_cons_zero, List.set_cons_succ, i64_w, i32_w, u8_w_]
             rfl
            refine pure_ (i := 35) (N := some 66) (v := undef) (a' := ?_) #[true, true, true, true, true, true, true, true, true, true, true, true, true, true, true, true, true, true, true, true, true, true, true, true, true, true, true, true, true, true, true, true, true, true, true, true, false, false, false, false, false, false, false, false, false] rfl rfl (any_of HT_.out (by kernel_rfl)) (fun _ _ _ h => h) (Or.inr ⟨by rfl, rfl⟩) ?_ ?_
            rotate_left
            ·simp only [Act.put, List.setIfInBounds_toArray, List.set_cons_zero, List.set_cons_succ, i64_w, i32_w, u8_w_]
             rfl
            refine pure_ (i := 36) (N := some 67) (v := undef) (a' := ?_) #[true, true, true, true, true, true, true, true, true, true, true, true, true, true, true, true, true, true, true, true, true, true, true, true, true, true, true, true, true, true, true, true, true, true, true, true, true, false, false, false, false, false, false, false, false] rfl rfl (any_of HT_.out (by kernel_rfl)) (fun _ _ _ h => h) (Or.inr ⟨by rfl, rfl⟩) ?_ ?_
            rotate_left
            ·simp only [Act.put, List.setIfInBounds_toArray, List.set_cons_zero, List.set_cons_succ, i64_w, i32_w, u8_w_]
             rfl
            refine pure_ (i := 37) (N := some 68) (v := undef) (a' := ?_) #[true, true, true, true, true, true, true, true, true, true, true, true, true, true, true, true, true, true, true, true, true, true, true, true, true, true, true, true, true, true, true, true, true, true, true, true, true, true, false, false, false, false, false, false, false] rfl rfl (any_of HT_.out (by kernel_rfl)) (fun _ _ _ h => h) (Or.inr ⟨by rfl, rfl⟩) ?_ ?_
            rotate_left
            ·simp only [Act.put, List.setIfInBounds_toArray, List.set_cons_zero, List.set_cons_succ, i64_w, i32_w, u8_w_]
             rfl
            refine pure_ (i := 38) (N := some 69) (v := undef) (a' := ?_) #[true, true, true, true, true, true, true, true, true, true, true, true, true, true, true, true, true, true, true, true, true, true, true, true, true, true, true, true, true, true, true, true, true, true, true, true, true, true, true, false, false, false, false, false, false] rfl rfl (any_of HT_.out (by kernel_rfl)) (fun _ _ _ h => h) (Or.inr ⟨by rfl, rfl⟩) ?_ ?_
            rotate_left
            ·simp only [Act.put, List.setIfInBounds_toArray, List.set_cons_zero, List.set_cons_succ, i64_w, i32_w, u8_w_]
             rfl
            refine pure_ (i := 39) (N := some 70) (v := undef) (a' := ?_) #[true, true, true, true, true, true, true, true, true, true, true, true, true, true, true, true, true, true, true, true, true, true, true, true, true, true, true, true, true, true, true, true, true, true, true, true, true, true, true, true, false, false, false, false, false] rfl rfl (any_of HT_.out (by kernel_rfl)) (fun _ _ _ h => h) (Or.inr ⟨by rfl, rfl⟩) ?_ ?_
            rotate_left
            ·simp only [Act.put, List.setIfInBounds_toArray, List.set_cons_zero, List.set_cons_succ, i64_w, i32_w, u8_w_]
             rfl
            refine pure_ (i := 40) (N := some 71) (v := undef) (a' := ?_) #[true, true, true, true, true, true, true, true, true, true, true, true, true, true, true, true, true, true, true, true, true, true, true, true, true, true, true, true, true, true, true, true, true, true, true, true, true, true, true, true, true, false, false, false, false] rfl rfl (any_of HT_.out (by kernel_rfl)) (fun _ _ _ h => h) (Or.inr ⟨by rfl, rfl⟩) ?_ ?_
            rotate_left
            ·simp only [Act.put, List.setIfInBounds_toArray, List.set_cons_zero, List.set_cons_succ, i64_w, i32_w, u8_w_]
             rfl
            refine pure_ (i := 41) (N := some 72) (v := undef) (a' := ?_) #[true, true, true, true, true, true, true, true, true, true, true, true, true, true, true, true, true, true, true, true, true, true, true, true, true, true, true, true, true, true, true, true, true, true, true, true, true, true, true, true, true, true, false, false, false] rfl rfl (any_of HT_.out (by kernel_rfl)) (fun _ _ _ h => h) (Or.inr ⟨by rfl, rfl⟩) ?_ ?_
            rotate_left
            ·simp only [Act.put, List.setIfInBounds_toArray, List.set_cons_zero, List.set_cons_succ, i64_w, i32_w, u8_w_]
             rfl
            refine pure_ (i := 42) (N := some 73) (v := undef) (a' := ?_) #[true, true, true, true, true, true, true, true, true, true, true, true, true, true, true, true, true, true, true, true, true, true, true, true, true, true, true, true, true, true, true, true, true, true, true, true, true, true, true, true, true, true, true, false, false] rfl rfl (any_of HT_.out (by kernel_rfl)) (fun _ _ _ h => h) (Or.inr ⟨by rfl, rfl⟩) ?_ ?_
            rotate_left
            ·simp only [Act.put, List.setIfInBounds_toArray, List.set_cons_zero, List.set_cons_succ, i64_w, i32_w, u8_w_]
             rfl
            refine pure_ (i := 43) (N := some 74) (v := undef) (a' := ?_) #[true, true, true, true, true, true, true, true, true, true, true, true, true, true, true, true, true, true, true, true, true, true, true, true, true, true, true, true, true, true, true, true, true, true, true, true, true, true, true, true, true, true, true, true, false] rfl rfl (any_of HT_.out (by kernel_rfl)) (fun _ _ _ h => h) (Or.inr ⟨by rfl, rfl⟩) ?_ ?_
            rotate_left
            ·simp only [Act.put, List.setIfInBounds_toArray, List.set_cons_zero, List.set_cons_succ, i64_w, i32_w, u8_w_]
             rfl
            refine pu_ 44 (some 75) HT_ ?_
            refine done_ (done_of HT_.out (by kernel_rfl)) ?_
            try go_wp2
            go_meet
            case rel => exact ⟨_, (true), (by first | rfl | (simp; done) | (simp [*]; done)), H', ⟨by have := HK1.out; first | omega | exact Nat.le_refl _⟩, ⟨by repeat (first | (with_reducible first | exact HB.out | apply bwA | apply pwN | apply bw1) | exact HB.out)⟩⟩
           ·rw [if_neg c15] at H
            have c15b0 : decide ((wrap64 (a3 - (((rd_T108 l0 x12_1).f0).size : Int))) < 0) = false := decide_eq_false c15
            clear c15
            obtain ⟨ji17, hji17⟩ : ∃ j_ : Int, (wrap64 (a3 - (((rd_T108 l0 x12_1).f0).size : Int))) = j_ := ⟨_, rfl⟩
            replace H : (if 0 ≤ (ji17) then (if (ji17) < (l2.length : Int) then (if x12_1 < ((rd_L12 l2 (ji17)).length : Int) then (if (rd (rd_L12 l2 (ji17)) x12_1) < 0 then (spec_l03Greatest.j1 k1 l0 l1 l2 a3 a4 x11_1 x12_1 ji17 true) else (if 0 ≤ a3 then (if a3 < (l2.length : Int) then (if a4 < ((rd_L12 l2 a3).length : Int) then (spec_l03Greatest.j1 k1 l0 l1 l2 a3 a4 x11_1 x12_1 ji17 ((wrap64 (((rd_T108 l0 x12_1).f1) + (rd (rd_L12 l2 (ji17)) x12_1))) != (rd (rd_L12 l2 a3) a4))) else (none)) else (none)) else (none))) else (none)) else (none)) else (none)) = some r := by first | (rw [hji17] at H; exact H) | (simp only [hji17] at H ⊢; exact H)
            (try rw [hji17] at c15b0)
            have hji17w : (IntKind.i64.wrap (a3 - (((rd_T108 l0 x12_1).f0).size : Int))) = ji17 := (i64_w _).trans hji17
            by_cases c18 : 0 ≤ (ji17)
            ·rw [if_pos c18] at H
             have c18b0 : decide (0 ≤ (ji17)) = true := decide_eq_true c18
             clear c18
             by_cases c19 : (ji17) < (l2.length : Int)
             ·rw [if_pos c19] at H
              have c19b0 : decide ((ji17) < (l2.length : Int)) = true := decide_eq_true c19
              clear c19
              by_cases c20 : x12_1 < ((rd_L12 l2 (ji17)).length : Int)
              ·rw [if_pos c20] at H
               have c20b0 : decide (x12_1 < ((rd_L12 l2 (ji17)).length : Int)) = true := decide_eq_true c20
               clear c20
               by_cases c21 : (rd (rd_L12 l2 (ji17)) x12_1) < 0
               ·rw [if_pos c21] at H
                have c21b0 : decide ((rd (rd_L12 l2 (ji17)) x12_1) < 0) = true := decide_eq_true c21
                clear c21
                have H' := Aside0.mk H
                clear H
                try go_wp2
                have n0_ := Aside0.mk (bw1 HB.out)
                clear HB
                have HB := n0_
                clear n0_
                have p459 : 0 ≤ (a4 : Int) := of_decide_eq_true (by first | (with_reducible assumption) | assumption)
                have q459 : a4 < (l1.length : Int) := of_decide_eq_true (by first | (with_reducible assumption) | assumption)
                obtain ⟨ad459, A459_0, c459_0, e459, hx459_0, hl459_0, hi459_0⟩ := at_L11 HR1.out a4 p459 q459
                have hw459_0 := hx459_0
                cases e459
                replace hx459_0 := (HB.out.cell (World.block_lt_of_cell? w _ hx459_0)).trans hx459_0
                have HR459_0 := Aside0.mk hi459_0
                have HC459_0 := Aside0.mk hl459_0
                clear hi459_0 hl459_0
                replace p459 := eq_true p459
                replace q459 := eq_true q459
                have p460 : 0 ≤ (x12_1 : Int) := of_decide_eq_true (by first | (with_reducible assumption) | assumption)
                have q460 : x12_1 < ((rd_L11 l1 a4).length : Int) := of_decide_eq_true (by first | (with_reducible assumption) | assumption)
                obtain ⟨ad460, e460, hx460_0⟩ := Kd.at_bool HR459_0.out x12_1 p460 q460
                (try rw [← Nbq13.out] at hx460_0)
                have hw460_0 := hx460_0
                cases e460
                replace hx460_0 := (HB.out.cell (World.block_lt_of_cell? w _ hx460_0)).trans hx460_0
                replace p460 := eq_true p460
                replace q460 := eq_true q460
                have p461 : 0 ≤ ((ji17) : Int) := of_decide_eq_true (by first | (with_reducible assumption) | assumption)
                have q461 : (ji17) < (l2.length : Int) := of_decide_eq_true (by first | (with_reducible assumption) | assumption)
                obtain ⟨ad461, A461_0, c461_0, e461, hx461_0, hl461_0, hi461_0⟩ := at_L12 HR2.out (ji17) p461 q461
                have hw461_0 := hx461_0
                cases e461
                replace hx461_0 := (HB.out.cell (World.block_lt_of_cell? w _ hx461_0)).trans hx461_0
                have HR461_0 := Aside0.mk hi461_0
                have HC461_0 := Aside0.mk hl461_0
                clear hi461_0 hl461_0
                replace p461 := eq_true p461
                replace q461 := eq_true q461
                have p462 : 0 ≤ (x12_1 : Int) := of_decide_eq_true (by first | (with_reducible assumption) | assumption)
                have q462 : x12_1 < ((rd_L12 l2 (ji17)).length : Int) := of_decide_eq_true (by first | (with_reducible assumption) | assumption)
                obtain ⟨ad462, e462, hx462_0⟩ := Kd.at_int HR461_0.out x12_1 p462 q462
                have hw462_0 := hx462_0
                cases e462
                replace hx462_0 := (HB.out.cell (World.block_lt_of_cell? w _ hx462_0)).trans hx462_0
                replace p462 := eq_true p462
                replace q462 := eq_true q462
                refine start_ (n := 45) (S := fun w' => w'.cell? (ad459.add (a4).toNat) = some (.slice (some ad460) (rd_L11 l1 a4).length c459_0) ∧ w'.cell? (ad460.add (x12_1).toNat) = some (.bool true) ∧ w'.cell? (ad461.add ((ji17)).toNat) = some (.slice (some ad462) (rd_L12 l2 (ji17)).length c461_0) ∧ w'.cell? (ad462.add (x12_1).toNat) = some (.int .i64 (rd (rd_L12 l2 (ji17)) x12_1))) (ds := []) #[false, false, false, false, false, false, false, false, false, false, false, false, false, false, false, false, false, false, false, false, false, false, false, false, false, false, false, false, false, false, false, false, false, false, false, false, false, false, false, false, false, false, false, false, false] (by kernel_rfl) rfl rfl ⟨((HB.out.cell (World.block_lt_of_cell? w _ hw459_0)).trans hw459_0), ((HB.out.cell (World.block_lt_of_cell? w _ hw460_0)).trans hw460_0), ((HB.out.cell (World.block_lt_of_cell? w _ hw461_0)).trans hw461_0), ((HB.out.cell (World.block_lt_of_cell? w _ hw462_0)).trans hw462_0)⟩ (fun hHeld => ?_); refine with_tabW spec_l03Greatest.tab8 spec_l03Greatest.bits8 (fun HT_ HW_ => ?_)
                generalize wr.drew = w22 at HB HR459_0 HR461_0 hx459_0 hx460_0 hx461_0 hx462_0 hHeld ⊢
                refine pu_ 0 (some 31) HT_ ?_
                refine pu_ 1 (some 32) HT_ ?_
                refine pu_ 2 (some 33) HT_ ?_
                refine pu_ 4 (some 35) HT_ ?_
                refine tk_ 3 (some 34) HT_ HW_ hHeld rfl (by rintro w' ⟨s0, s1, s2, s3⟩; go_simp; with_reducible rfl) ?_
                refine pu_ 5 (some 36) HT_ ?_
                refine tk_ 6 (some 37) HT_ HW_ hHeld rfl (by rintro w' ⟨s0, s1, s2, s3⟩; go_simp; with_reducible rfl) ?_
                refine pu_ 7 (some 38) HT_ ?_
                refine pu_ 8 (some 39) HT_ ?_
                refine pu_ 9 (some 40) HT_ ?_
                refine pu_ 10 (some 41) HT_ ?_
                refine pu_ 11 (some 42) HT_ ?_
                refine pu_ 12 (some 43) HT_ ?_
                refine pu_ 13 (some 44) HT_ ?_
                refine pu_ 14 (some 45) HT_ ?_
                refine pu_ 15 (some 46) HT_ ?_
                refine pu_ 17 (some 48) HT_ ?_
                refine tk_ 16 (some 47) HT_ HW_ hHeld rfl (by rintro w' ⟨s0, s1, s2, s3⟩; go_simp; with_reducible rfl) ?_
                refine pu_ 18 (some 49) HT_ ?_
                refine tk_ 19 (some 50) HT_ HW_ hHeld rfl (by rintro w' ⟨s0, s1, s2, s3⟩; go_simp; with_reducible rfl) ?_
                refine pu_ 20 (some 51) HT_ ?_
                refine pu_ 21 (some 52) HT_ ?_
                refine pu_ 22 (some 53) HT_ ?_
                refine pure_ (i := 23) (N := some 54) (v := undef) (a' := ?_) #[true, true, true, true, true, true, true, true, true, true, true, true, true, true, true, true, true, true, true, true, true, true, true, true, false, false, false, false, false, false, false, false, false, false, false, false, false, false, false, false, false, false, false, false, false] rfl rfl (any_of HT_.out (by kernel_rfl)) (fun _ _ _ h => h) (Or.inr ⟨by rfl, rfl⟩) ?_ ?_
                rotate_left
                ·simp only [Act.put, List.setIfInBounds_toArray, List.set_cons_zero, List.set_cons_succ, i64_w, i32_w, u8_w_]
                 rfl
                refine pure_ (i := 24) (N := some 55) (v := undef) (a' := ?_) #[true, true, true, true, true, true, true, true, true, true, true, true, true, true, true, true, true, true, true, true, true, true, true, true, true, false, false, false, false, false, false, false, false, false, false, false, false, false, false, false, false, false, false, false, false] rfl rfl (any_of HT_.out (by kernel_rfl)) (fun _ _ _ h => h) (Or.inr ⟨by rfl, rfl⟩) ?_ ?_
                rotate_left
                ·simp only [Act.put, List.setIfInBounds_toArray, List.set_cons_zero, List.set_cons_succ, i64_w, i32_w, u8_w_]
                 rfl
                refine pure_ (i := 25) (N := some 56) (v := undef) (a' := ?_) #[true, true, true, true, true, true, true, true, true, true, true, true, true, true, true, true, true, true, true, true, true, true, true, true, true, true, false, false, false, false, false, false, false, false, false, false, false, false, false, false, false, false, false, false, false] rfl rfl (any_of HT_.out (by kernel_rfl)) (fun _ _ _ h => h) (Or.inr ⟨by rfl, rfl⟩) ?_ ?_
                rotate_left
                ·simp only [Act.put, List.setIfInBounds_toArray, List.set_cons_zero, List.set_cons_succ, i64_w, i32_w, u8_w_]
                 rfl
                refine pure_ (i := 26) (N := some 57) (v := undef) (a' := ?_) #[true, true, true, true, true, true, true, true, true, true, true, true, true, true, true, true, true, true, true, true, true, true, true, true, true, true, true, false, false, false, false, false, false, false, false, false, false, false, false, false, false, false, false, false, false] rfl rfl (any_of HT_.out (by kernel_rfl)) (fun _ _ _ h => h) (Or.inr ⟨by rfl, rfl⟩) ?_ ?_
                rotate_left
                ·simp only [Act.put, List.setIfInBounds_toArray, List.set_cons_zero, List.set_cons_succ, i64_w, i32_w, u8_w_]
                 rfl
                refine pure_ (i := 27) (N := some 58) (v := undef) (a' := ?_) #[true, true, true, true, true, true, true, true, true, true, true, true, true, true, true, true, true, true, true, true, true, true, true, true, true, true, true, true, false, false, false, false, false, false, false, false, false, false, false, false, false, false, false, false, false] rfl rfl (any_of HT_.out (by kernel_rfl)) (fun _ _ _ h => h) (Or.inr ⟨by rfl, rfl⟩) ?_ ?_
                rotate_left
                ·simp only [Act.put, List.setIfInBounds_toArray, List.set_cons_zero, List.set_cons_succ, i64_w, i32_w, u8_w_]
                 rfl
                refine pure_ (i := 28) (N := some 59) (v := undef) (a' := ?_) #[true, true, true, true, true, true, true, true, true, true, true, true, true, true, true, true, true, true, true, true, true, true, true, true, true, true, true, true, true, false, false, false, false, false, false, false, false, false, false, false, false, false, false, false, false] rfl rfl (any_of HT_.out (by kernel_rfl)) (fun _ _ _ h => h) (Or.inr ⟨by rfl, rfl⟩) ?_ ?_
                rotate_left
                ·simp only [Act.put, List.setIfInBounds_toArray, List.set_cons_zero, List.set_cons_succ, i64_w, i32_w, u8_w_]
                 rfl
                refine pure_ (i := 29) (N := some 60) (v := undef) (a' := ?_) #[true, true, true, true, true, true, true, true, true, true, true, true, true, true, true, true, true, true, true, true, true, true, true, true, true, true, true, true, true, true, false, false, false, false, false, false, false, false, false, false, false, false, false, false, false] rfl rfl (any_of HT_.out (by kernel_rfl)) (fun _ _ _ h => h) (Or.inr ⟨by rfl, rfl⟩) ?_ ?_
                rotate_left
                ·simp only [Act.put, List.setIfInBounds_toArray, List.set_cons_zero, List.set_cons_succ, i64_w, i32_w, u8_w_]
                 rfl
                refine pure_ (i := 30) (N := some 61) (v := undef) (a' := ?_) #[true, true, true, true, true, true, true, true, true, true, true, true, true, true, true, true, true, true, true, true, true, true, true, true, true, true, true, true, true, true, true, false, false, false, false, false, false, false, false, false, false, false, false, false, false] rfl rfl (any_of HT_.out (by kernel_rfl)) (fun _ _ _ h => h) (Or.inr ⟨by rfl, rfl⟩) ?_ ?_
                rotate_left
                ·simp only [Act.put, List.setIfInBounds_toArray, List.set_cons_zero, List.set_cons_succ, i64_w, i32_w, u8_w_]
                 rfl
                refine pure_ (i := 31) (N := some 62) (v := undef) (a' := ?_) #[true, true, true, true, true, true, true, true, true, true, true, true, true, true, true, true, true, true, true, true, true, true, true, true, true, true, true, true, true, true, true, true, false, false, false, false, false, false, false, false, false, false, false, false, false] rfl rfl (any_of HT_.out (by kernel_rfl)) (fun _ _ _ h => h) (Or.inr ⟨by rfl, rfl⟩) ?_ ?_
                rotate_left
                ·simp only [Act.put, List.setIfInBounds_toArray, List.set_cons_zero, List.set_cons_succ, i64_w, i32_w, u8_w_]
                 rfl
                refine pure_ (i := 32) (N := some 63) (v := undef) (a' := ?_) #[true, true, true, true, true, true, true, true, true, true, true, true, true, true, true, true, true, true, true, true, true, true, true, true, true, true, true, true, true, true, true, true, true, false, false, false, false, false, false, false, false, false, false, false, false] rfl rfl (any_of HT_.out (by kernel_rfl)) (fun _ _ _ h => h) (Or.inr ⟨by rfl, rfl⟩) ?_ ?_
                rotate_left
                ·simp only [Act.put, List.setIfInBounds_toArray, List.set_cons_zero, List.set_cons_succ, i64_w, i32_w, u8_w_]
                 rfl
                refine pure_ (i := 33) (N := some 64) (v := undef) (a' := ?_) #[true, true, true, true, true, true, true, true, true, true, true, true, true, true, true, true, true, true, true, true, true, true, true, true, true, true, true, true, true, true, true, true, true, true, false, false, false, false, false, false, false, false, false, false, false] rfl rfl (any_of HT_.out (by kernel_rfl)) (fun _ _ _ h => h) (Or.inr ⟨by rfl, rfl⟩) ?_ ?_
                rotate_left
                ·simp only [Act.put, List.setIfInBounds_toArray, List.set_cons_zero, List.set_cons_succ, i64_w, i32_w, u8_w_]
                 rfl
                refine pure_ (i := 34) (N := some 65) (v := undef) (a' := ?_) #[true, true, true, true, true, true, true, true, true, true, true, true, true, true, true, true, true, true, true, true, true, true, true, true, true, true, true, true, true, true, true, true, true, true, true, false, false, false, false, false, false, false, false, false, false] rfl rfl (any_of HT_.out (by kernel_rfl)) (fun _ _ _ h => h) (Or.inr ⟨by rfl, rfl⟩) ?_ ?_
                rotate_left
                ·simp only [Act.put, List.setIfInBounds_toArray, List.set_cons_zero, List.set_cons_succ, i64_w, i32_w, u8_w_]
                 rfl
                refine pure_ (i := 35) (N := some 66) (v := undef) (a' := ?_) #[true, true, true, true, true, true, true, true, true, true, true, true, true, true, true, true, true, true, true, true, true, true, true, true, true, true, true, true, true, true, true, true, true, true, true, true, false, false, false, false, false, false, false, false, false] rfl rfl (any_of HT_.out (by kernel_rfl)) (fun _ _ _ h => h) (Or.inr ⟨by rfl, rfl⟩) ?_ ?_
                rotate_left
                ·simp only [Act.put, List.setIfInBounds_toArray, List.set_cons_zero, List.set_cons_succ, i64_w, i32_w, u8_w_]
                 rfl
                refine pure_ (i := 36) (N := some 67) (v := undef) (a' := ?_) #[true, true, true, true, true, true, true, true, true, true, true, true, true, true, true, true, true, true, true, true, true, true, true, true, true, true, true, true, true, true, true, true, true, true, true, true, true, false, false, false, false, false, false, false, false] rfl rfl (any_of HT_.out (by kernel_rfl)) (fun _ _ _ h => h) (Or.inr ⟨by rfl, rfl⟩) ?_ ?_
                rotate_left
                ·simp only [Act.put, List.setIfInBounds_toArray, List.set_cons_zero, List.set_cons_succ, i64_w, i32_w, u8_w_]
                 rfl
                refine pure_ (i := 37) (N := some 68) (v := undef) (a' := ?_) #[true, true, true, true, true, true, true, true, true, true, true, true, true, true, true, true, true, true, true, true, true, true, true, true, true, true, true, true, true, true, true, true, true, true, true, true, true, true, false, false, false, false, false, false, false] rfl rfl (any_of HT_.out (by kernel_rfl)) (fun _ _ _ h => h) (Or.inr ⟨by rfl, rfl⟩) ?_ ?_
                rotate_left
                ·simp only [Act.put, List.setIfInBounds_toArray, List.set_cons_zero, List.set_cons_succ, i64_w, i32_w, u8_w_]
                 rfl
                refine pure_ (i := 38) (N := some 69) (v := undef) (a' := ?_) #[true, true, true, true, true, true, true, true, true, true, true, true, true, true, true, true, true, true, true, true, true, true, true, true, true, true, true, true, true, true, true, true, true, true, true, true, true, true, true, false, false, false, false, false, false] rfl rfl (any_of HT_.out (by kernel_rfl)) (fun _ _ _ h => h) (Or.inr ⟨by rfl, rfl⟩) ?_ ?_
                rotate_left
                ·simp only [Act.put, List.setIfInBounds_toArray, List.set_cons_zero, List.set_cons_succ, i64_w, i32_w, u8_w_]
                 rfl
                refine pure_ (i := 39) (N := some 70) (v := undef) (a' := ?_) #[true, true, true, true, true, true, true, true, true, true, true, true, true, true, true, true, true, true, true, true, true, true, true, true, true, true, true, true, true, true, true, true, true, true, true, true, true, true, true, true, false, false, false, false, false] rfl rfl (any_of HT_.out (by kernel_rfl)) (fun _ _ _ h => h) (Or.inr ⟨by rfl, rfl⟩) ?_ ?_
                rotate_left
                ·simp only [Act.put, List.setIfInBounds_toArray, List.set_cons_zero, List.set_cons_succ, i64_w, i32_w, u8_w_]
                 rfl
                refine pure_ (i := 40) (N := some 71) (v := undef) (a' := ?_) #[true, true, true, true, true, true, true, true, true, true, true, true, true, true, true, true, true, true, true, true, true, true, true, true, true, true, true, true, true, true, true, true, true, true, true, true, true, true, true, true, true, false, false, false, false] rfl rfl (any_of HT_.out (by kernel_rfl)) (fun _ _ _ h => h) (Or.inr ⟨by rfl, rfl⟩) ?_ ?_
                rotate_left
                ·simp only [Act.put, List.setIfInBounds_toArray, List.set_cons_zero, List.set_cons_succ, i64_w, i32_w, u8_w_]
                 rfl
                refine pure_ (i := 41) (N := some 72) (v := undef) (a' := ?_) #[true, true, true, true, true, true, true, true, true, true, true, true, true, true, true, true, true, true, true, true, true, true, true, true, true, true, true, true, true, true, true, true, true, true, true, true, true, true, true, true, true, true, false, false, false] rfl rfl (any_of HT_.out (by kernel_rfl)) (fun _ _ _ h => h) (Or.inr ⟨by rfl, rfl⟩) ?_ ?_
                rotate_left
                ·simp only [Act.put, List.setIfInBounds_toArray, List.set_cons_zero, List.set_cons_succ, i64_w, i32_w, u8_w_]
                 rfl
                refine pure_ (i := 42) (N := some 73) (v := undef) (a' := ?_) #[true, true, true, true, true, true, true, true, true, true, true, true, true, true, true, true, true, true, true, true, true, true, true, true, true, true, true, true, true, true, true, true, true, true, true, true, true, true, true, true, true, true, true, false, false] rfl rfl (any_of HT_.out (by kernel_rfl)) (fun _ _ _ h => h) (Or.inr ⟨by rfl, rfl⟩) ?_ ?_
                rotate_left
                ·simp only [Act.put, List.setIfInBounds_toArray, List.set_cons_zero, List.set_cons_succ, i64_w, i32_w, u8_w_]
                 rfl
                refine pure_ (i := 43) (N := some 74) (v := undef) (a' := ?_) #[true, true, true, true, true, true, true, true, true, true, true, true, true, true, true, true, true, true, true, true, true, true, true, true, true, true, true, true, true, true, true, true, true, true, true, true, true, true, true, true, true, true, true, true, false] rfl rfl (any_of HT_.out (by kernel_rfl)) (fun _ _ _ h => h) (Or.inr ⟨by rfl, rfl⟩) ?_ ?_
                rotate_left
                ·simp only [Act.put, List.setIfInBounds_toArray, List.set_cons_zero, List.set_cons_succ, i64_w, i32_w, u8_w_]
                 rfl
                refine pu_ 44 (some 75) HT_ ?_
                refine done_ (done_of HT_.out (by kernel_rfl)) ?_
                try go_wp2
                go_meet
                case rel => exact ⟨_, (true), (by first | rfl | (simp; done) | (simp [*]; done)), (by first | exact H' | (rw [hji17]; exact H')), ⟨by have := HK1.out; first | omega | exact Nat.le_refl _⟩, ⟨by repeat (first | (with_reducible first | exact HB.out | apply bwA | apply pwN | apply bw1) | exact HB.out)⟩⟩
               ·rw [if_neg c21] at H
                have c21b0 : decide ((rd (rd_L12 l2 (ji17)) x12_1) < 0) = false := decide_eq_false c21
                clear c21
                by_cases c23 : 0 ≤ a3
                ·rw [if_pos c23] at H
                 have c23b0 : decide (0 ≤ a3) = true := decide_eq_true c23
                 clear c23
                 by_cases c24 : a3 < (l2.length : Int)
                 ·rw [if_pos c24] at H
                  have c24b0 : decide (a3 < (l2.length : Int)) = true := decide_eq_true c24
                  clear c24
                  by_cases c25 : a4 < ((rd_L12 l2 a3).length : Int)
                  ·rw [if_pos c25] at H
                   have c25b0 : decide (a4 < ((rd_L12 l2 a3).length : Int)) = true := decide_eq_true c25
                   clear c25
                   have H' := Aside0.mk H
                   clear H
                   try go_wp2
                   have n0_ := Aside0.mk (bw1 HB.out)
                   clear HB
                   have HB := n0_
                   clear n0_
                   have p459 : 0 ≤ (a4 : Int) := of_decide_eq_true (by first | (with_reducible assumption) | assumption)
                   have q459 : a4 < (l1.length : Int) := of_decide_eq_true (by first | (with_reducible assumption) | assumption)
                   obtain ⟨ad459, A459_0, c459_0, e459, hx459_0, hl459_0, hi459_0⟩ := at_L11 HR1.out a4 p459 q459
                   have hw459_0 := hx459_0
                   cases e459
                   replace hx459_0 := (HB.out.cell (World.block_lt_of_cell? w _ hx459_0)).trans hx459_0
                   have HR459_0 := Aside0.mk hi459_0
                   have HC459_0 := Aside0.mk hl459_0
                   clear hi459_0 hl459_0
                   replace p459 := eq_true p459
                   replace q459 := eq_true q459
                   have p460 : 0 ≤ (x12_1 : Int) := of_decide_eq_true (by first | (with_reducible assumption) | assumption)
                   have q460 : x12_1 < ((rd_L11 l1 a4).length : Int) := of_decide_eq_true (by first | (with_reducible assumption) | assumption)
                   obtain ⟨ad460, e460, hx460_0⟩ := Kd.at_bool HR459_0.out x12_1 p460 q460
                   (try rw [← Nbq13.out] at hx460_0)
                   have hw460_0 := hx460_0
                   cases e460
                   replace hx460_0 := (HB.out.cell (World.block_lt_of_cell? w _ hx460_0)).trans hx460_0
                   replace p460 := eq_true p460
                   replace q460 := eq_true q460
                   have p461 : 0 ≤ ((ji17) : Int) := of_decide_eq_true (by first | (with_reducible assumption) | assumption)
                   have q461 : (ji17) < (l2.length : Int) := of_decide_eq_true (by first | (with_reducible assumption) | assumption)
                   obtain ⟨ad461, A461_0, c461_0, e461, hx461_0, hl461_0, hi461_0⟩ := at_L12 HR2.out (ji17) p461 q461
                   have hw461_0 := hx461_0
                   cases e461
                   replace hx461_0 := (HB.out.cell (World.block_lt_of_cell? w _ hx461_0)).trans hx461_0
                   have HR461_0 := Aside0.mk hi461_0
                   have HC461_0 := Aside0.mk hl461_0
                   clear hi461_0 hl461_0
                   replace p461 := eq_true p461
                   replace q461 := eq_true q461
                   have p462 : 0 ≤ (x12_1 : Int) := of_decide_eq_true (by first | (with_reducible assumption) | assumption)
                   have q462 : x12_1 < ((rd_L12 l2 (ji17)).length : Int) := of_decide_eq_true (by first | (with_reducible assumption) | assumption)
                   obtain ⟨ad462, e462, hx462_0⟩ := Kd.at_int HR461_0.out x12_1 p462 q462
                   have hw462_0 := hx462_0
                   cases e462
                   replace hx462_0 := (HB.out.cell (World.block_lt_of_cell? w _ hx462_0)).trans hx462_0
                   replace p462 := eq_true p462
                   replace q462 := eq_true q462
                   have p463 : 0 ≤ (x12_1 : Int) := of_decide_eq_true (by first | (with_reducible assumption) | assumption)
                   have q463 : x12_1 < (l0.length : Int) := of_decide_eq_true (by first | (with_reducible assumption) | assumption)
                   obtain ⟨ad463, e463, hx463_0, hx463_1⟩ := at_T108 HR0.out x12_1 p463 q463
                   have hw463_1 := hx463_1
                   have hw463_0 := hx463_0
                   obtain rfl : ad458 = ad463 := (by injection e463)
                   replace hx463_0 := (HB.out.cell (World.block_lt_of_cell? w _ hx463_0)).trans hx463_0
                   replace hx463_1 := (HB.out.cell (World.block_lt_of_cell? w _ hx463_1)).trans hx463_1
                   replace p463 := eq_true p463
                   replace q463 := eq_true q463
                   have p464 : 0 ≤ ((ji17) : Int) := of_decide_eq_true (by first | (with_reducible assumption) | assumption)
                   have q464 : (ji17) < (l2.length : Int) := of_decide_eq_true (by first | (with_reducible assumption) | assumption)
                   obtain ⟨ad464, A464_0, c464_0, e464, hx464_0, hl464_0, hi464_0⟩ := at_L12 HR2.out (ji17) p464 q464
                   have hw464_0 := hx464_0
                   obtain rfl : ad461 = ad464 := (by injection e464)
                   replace hx464_0 := (HB.out.cell (World.block_lt_of_cell? w _ hx464_0)).trans hx464_0
                   have HR464_0 := Aside0.mk hi464_0
                   have HC464_0 := Aside0.mk hl464_0
                   clear hi464_0 hl464_0
                   replace p464 := eq_true p464
                   replace q464 := eq_true q464
                   have ea_ := Option.some.inj (hx461_0.symm.trans hx464_0)
                   injection ea_ with ea_ en_ ec_
                   subst ea_
                   subst ec_
                   clear en_
                   have p465 : 0 ≤ (x12_1 : Int) := of_decide_eq_true (by first | (with_reducible assumption) | assumption)
                   have q465 : x12_1 < ((rd_L12 l2 (ji17)).length : Int) := of_decide_eq_true (by first | (with_reducible assumption) | assumption)
                   obtain ⟨ad465, e465, hx465_0⟩ := Kd.at_int HR464_0.out x12_1 p465 q465
                   have hw465_0 := hx465_0
                   cases e465
                   replace hx465_0 := (HB.out.cell (World.block_lt_of_cell? w _ hx465_0)).trans hx465_0
                   replace p465 := eq_true p465
                   replace q465 := eq_true q465
                   have p466 : 0 ≤ (a3 : Int) := of_decide_eq_true (by first | (with_reducible assumption) | assumption)
                   have q466 : a3 < (l2.length : Int) := of_decide_eq_true (by first | (with_reducible assumption) | assumption)
                   obtain ⟨ad466, A466_0, c466_0, e466, hx466_0, hl466_0, hi466_0⟩ := at_L12 HR2.out a3 p466 q466
                   have hw466_0 := hx466_0
                   obtain rfl : ad461 = ad466 := (by injection e466)
                   replace hx466_0 := (HB.out.cell (World.block_lt_of_cell? w _ hx466_0)).trans hx466_0
                   have HR466_0 := Aside0.mk hi466_0
                   have HC466_0 := Aside0.mk hl466_0
                   clear hi466_0 hl466_0
                   replace p466 := eq_true p466
                   replace q466 := eq_true q466
                   have p467 : 0 ≤ (a4 : Int) := of_decide_eq_true (by first | (with_reducible assumption) | assumption)
                   have q467 : a4 < ((rd_L12 l2 a3).length : Int) := of_decide_eq_true (by first | (with_reducible assumption) | assumption)
                   obtain ⟨ad467, e467, hx467_0⟩ := Kd.at_int HR466_0.out a4 p467 q467
                   have hw467_0 := hx467_0
                   cases e467
                   replace hx467_0 := (HB.out.cell (World.block_lt_of_cell? w _ hx467_0)).trans hx467_0
                   replace p467 := eq_true p467
                   replace q467 := eq_true q467
                   refine start_ (n := 45) (S := fun w' => w'.cell? (ad459.add (a4).toNat) = some (.slice (some ad460) (rd_L11 l1 a4).length c459_0) ∧ w'.cell? (ad460.add (x12_1).toNat) = some (.bool true) ∧ w'.cell? (ad461.add ((ji17)).toNat) = some (.slice (some ad462) (rd_L12 l2 (ji17)).length c461_0) ∧ w'.cell? (ad462.add (x12_1).toNat) = some (.int .i64 (rd (rd_L12 l2 (ji17)) x12_1)) ∧ w'.cell? (ad458.add ((x12_1).toNat * 2)) = some (.string ((rd_T108 l0 x12_1).f0)) ∧ w'.cell? ⟨(ad458.add ((x12_1).toNat * 2)).block, (ad458.add ((x12_1).toNat * 2)).off + 1, none⟩ = some (.int .i64 ((rd_T108 l0 x12_1).f1)) ∧ w'.cell? (ad461.add ((ji17)).toNat) = some (.slice (some ad462) (rd_L12 l2 (ji17)).length c461_0) ∧ w'.cell? (ad462.add (x12_1).toNat) = some (.int .i64 (rd (rd_L12 l2 (ji17)) x12_1)) ∧ w'.cell? (ad461.add (a3).toNat) = some (.slice (some ad467) (rd_L12 l2 a3).length c466_0) ∧ w'.cell? (ad467.add (a4).toNat) = some (.int .i64 (rd (rd_L12 l2 a3) a4))) (ds := []) #[false, false, false, false, false, false, false, false, false, false, false, false, false, false, false, false, false, false, false, false, false, false, false, false, false, false, false, false, false, false, false, false, false, false, false, false, false, false, false, false, false, false, false, false, false] (by kernel_rfl) rfl rfl ⟨((HB.out.cell (World.block_lt_of_cell? w _ hw459_0)).trans hw459_0), ((HB.out.cell (World.block_lt_of_cell? w _ hw460_0)).trans hw460_0), ((HB.out.cell (World.block_lt_of_cell? w _ hw461_0)).trans hw461_0), ((HB.out.cell (World.block_lt_of_cell? w _ hw462_0)).trans hw462_0), ((HB.out.cell (World.block_lt_of_cell? w _ hw463_0)).trans hw463_0), ((HB.out.cell (World.block_lt_of_cell? w _ hw463_1)).trans hw463_1), ((HB.out.cell (World.block_lt_of_cell? w _ hw464_0)).trans hw464_0), ((HB.out.cell (World.block_lt_of_cell? w _ hw465_0)).trans hw465_0), ((HB.out.cell (World.block_lt_of_cell? w _ hw466_0)).trans hw466_0), ((HB.out.cell (World.block_lt_of_cell? w _ hw467_0)).trans hw467_0)⟩ (fun hHeld => ?_); refine with_tabW spec_l03Greatest.tab8 spec_l03Greatest.bits8 (fun HT_ HW_ => ?_)
                   generalize wr.drew = w26 at HB HR459_0 HR461_0 HR464_0 HR466_0 hx459_0 hx460_0 hx461_0 hx462_0 hx463_0 hx463_1 hx464_0 hx465_0 hx466_0 hx467_0 hHeld ⊢
                   refine pu_ 0 (some 31) HT_ ?_
                   refine pu_ 1 (some 32) HT_ ?_
                   refine pu_ 2 (some 33) HT_ ?_
                   refine pu_ 4 (some 35) HT_ ?_
                   refine tk_ 3 (some 34) HT_ HW_ hHeld rfl (by rintro w' ⟨s0, s1, s2, s3, s4, s5, s6, s7, s8, s9⟩; go_simp; with_reducible rfl) ?_
                   refine pu_ 5 (some 36) HT_ ?_
                   refine tk_ 6 (some 37) HT_ HW_ hHeld rfl (by rintro w' ⟨s0, s1, s2, s3, s4, s5, s6, s7, s8, s9⟩; go_simp; with_reducible rfl) ?_
                   refine pu_ 7 (some 38) HT_ ?_
                   refine pu_ 8 (some 39) HT_ ?_
                   refine pu_ 9 (some 40) HT_ ?_
                   refine pu_ 10 (some 41) HT_ ?_
                   refine pu_ 11 (some 42) HT_ ?_
                   refine pu_ 12 (some 43) HT_ ?_
                   refine pu_ 13 (some 44) HT_ ?_
                   refine pu_ 14 (some 45) HT_ ?_
                   refine pu_ 15 (some 46) HT_ ?_
                   refine pu_ 17 (some 48) HT_ ?_
                   refine tk_ 16 (some 47) HT_ HW_ hHeld rfl (by rintro w' ⟨s0, s1, s2, s3, s4, s5, s6, s7, s8, s9⟩; go_simp; with_reducible rfl) ?_
                   refine pu_ 18 (some 49) HT_ ?_
                   refine tk_ 19 (some 50) HT_ HW_ hHeld rfl (by rintro w' ⟨s0, s1, s2, s3, s4, s5, s6, s7, s8, s9⟩; go_simp; with_reducible rfl) ?_
                   refine pu_ 20 (some 51) HT_ ?_
                   refine pu_ 21 (some 52) HT_ ?_
                   refine pu_ 22 (some 53) HT_ ?_
                   refine pu_ 23 (some 54) HT_ ?_
                   refine pu_ 24 (some 55) HT_ ?_
                   refine pu_ 25 (some 56) HT_ ?_
                   refine pu_ 26 (some 57) HT_ ?_
                   refine pu_ 28 (some 59) HT_ ?_
                   refine pu_ 29 (some 60) HT_ ?_
                   refine pu_ 30 (some 61) HT_ ?_
                   refine pu_ 32 (some 63) HT_ ?_
                   refine pu_ 36 (some 67) HT_ ?_
                   refine pu_ 37 (some 68) HT_ ?_
                   refine pu_ 38 (some 69) HT_ ?_
                   refine pu_ 40 (some 71) HT_ ?_
                   refine tk_ 27 (some 58) HT_ HW_ hHeld rfl (by rintro w' ⟨s0, s1, s2, s3, s4, s5, s6, s7, s8, s9⟩; go_simp; with_reducible rfl) ?_
                   refine tk_ 31 (some 62) HT_ HW_ hHeld rfl (by rintro w' ⟨s0, s1, s2, s3, s4, s5, s6, s7, s8, s9⟩; go_simp; with_reducible rfl) ?_
                   refine pu_ 33 (some 64) HT_ ?_
                   refine tk_ 34 (some 65) HT_ HW_ hHeld rfl (by rintro w' ⟨s0, s1, s2, s3, s4, s5, s6, s7, s8, s9⟩; go_simp; with_reducible rfl) ?_
                   refine pu_ 35 (some 66) HT_ ?_
                   refine tk_ 39 (some 70) HT_ HW_ hHeld rfl (by rintro w' ⟨s0, s1, s2, s3, s4, s5, s6, s7, s8, s9⟩; go_simp; with_reducible rfl) ?_
                   refine pu_ 41 (some 72) HT_ ?_
                   refine tk_ 42 (some 73) HT_ HW_ hHeld rfl (by rintro w' ⟨s0, s1, s2, s3, s4, s5, s6, s7, s8, s9⟩; go_simp; with_reducible rfl) ?_
                   refine pu_ 43 (some 74) HT_ ?_
                   refine pu_ 44 (some 75) HT_ ?_
                   refine done_ (done_of HT_.out (by kernel_rfl)) ?_
                   try go_wp2
                   (try simp only [← hji17])
                   go_meet
                   case rel => exact ⟨_, (((wrap64 (((rd_T108 l0 x12_1).f1) + (rd (rd_L12 l2 (ji17)) x12_1))) != (rd (rd_L12 l2 a3) a4))), (by first | rfl | (simp; done) | (simp only [← hji17] <;> (first | rfl | simp)) | (simp [*]; done)), (by first | exact H' | (rw [hji17]; exact H')), ⟨by have := HK1.out; first | omega | exact Nat.le_refl _⟩, ⟨by repeat (first | (with_reducible first | exact HB.out | apply bwA | apply pwN | apply bw1) | exact HB.out)⟩⟩
                  ·rw [if_neg c25] at H
                   exact absurd H (by simp)
                 ·rw [if_neg c24] at H
                  exact absurd H (by simp)
                ·rw [if_neg c23] at H
                 exact absurd H (by simp)
              ·rw [if_neg c20] at H
               exact absurd H (by simp)
             ·rw [if_neg c19] at H
              exact absurd H (by simp)
            ·rw [if_neg c18] at H
             exact absurd H (by simp)
          ·replace c14 := Bool.eq_false_iff.mpr c14
           subst c14
           rw [if_neg (show ¬ (false = true) by decide)] at H
           have H1 := H
           clear H
           have H := H1
           clear H1
           have H' := Aside0.mk H
           clear H
           try go_wp2
           have n0_ := Aside0.mk (bw1 HB.out)
           clear HB
           have HB := n0_
           clear n0_
           have p459 : 0 ≤ (a4 : Int) := of_decide_eq_true (by first | (with_reducible assumption) | assumption)
           have q459 : a4 < (l1.length : Int) := of_decide_eq_true (by first | (with_reducible assumption) | assumption)
           obtain ⟨ad459, A459_0, c459_0, e459, hx459_0, hl459_0, hi459_0⟩ := at_L11 HR1.out a4 p459 q459
           have hw459_0 := hx459_0
           cases e459
           replace hx459_0 := (HB.out.cell (World.block_lt_of_cell? w _ hx459_0)).trans hx459_0
           have HR459_0 := Aside0.mk hi459_0
           have HC459_0 := Aside0.mk hl459_0
           clear hi459_0 hl459_0
           replace p459 := eq_true p459
           replace q459 := eq_true q459
           have p460 : 0 ≤ (x12_1 : Int) := of_decide_eq_true (by first | (with_reducible assumption) | assumption)
           have q460 : x12_1 < ((rd_L11 l1 a4).length : Int) := of_decide_eq_true (by first | (with_reducible assumption) | assumption)
           obtain ⟨ad460, e460, hx460_0⟩ := Kd.at_bool HR459_0.out x12_1 p460 q460
           (try rw [← Nbq13.out] at hx460_0)
           have hw460_0 := hx460_0
           cases e460
           replace hx460_0 := (HB.out.cell (World.block_lt_of_cell? w _ hx460_0)).trans hx460_0
           replace p460 := eq_true p460
           replace q460 := eq_true q460
           refine start_ (n := 45) (S := fun w' => w'.cell? (ad459.add (a4).toNat) = some (.slice (some ad460) (rd_L11 l1 a4).length c459_0) ∧ w'.cell? (ad460.add (x12_1).toNat) = some (.bool false)) (ds := []) #[false, false, false, false, false, false, false, false, false, false, false, false, false, false, false, false, false, false, false, false, false, false, false, false, false, false, false, false, false, false, false, false, false, false, false, false, false, false, false, false, false, false, false, false, false] (by kernel_rfl) rfl rfl ⟨((HB.out.cell (World.block_lt_of_cell? w _ hw459_0)).trans hw459_0), ((HB.out.cell (World.block_lt_of_cell? w _ hw460_0)).trans hw460_0)⟩ (fun hHeld => ?_); refine with_tabW spec_l03Greatest.tab8 spec_l03Greatest.bits8 (fun HT_ HW_ => ?_)
           generalize wr.drew = w27 at HB HR459_0 hx459_0 hx460_0 hHeld ⊢
           refine pu_ 0 (some 31) HT_ ?_
           refine pu_ 1 (some 32) HT_ ?_
           refine pu_ 2 (some 33) HT_ ?_
           refine pu_ 4 (some 35) HT_ ?_
           refine tk_ 3 (some 34) HT_ HW_ hHeld rfl (by rintro w' ⟨s0, s1⟩; go_simp; with_reducible rfl) ?_
           refine pu_ 5 (some 36) HT_ ?_
           refine tk_ 6 (some 37) HT_ HW_ hHeld rfl (by rintro w' ⟨s0, s1⟩; go_simp; with_reducible rfl) ?_
           refine pu_ 7 (some 38) HT_ ?_
           refine pu_ 8 (some 39) HT_ ?_
           refine pure_ (i := 9) (N := some 40) (v := undef) (a' := ?_) #[true, true, true, true, true, true, true, true, true, true, false, false, false, false, false, false, false, false, false, false, false, false, false, false, false, false, false, false, false, false, false, false, false, false, false, false, false, false, false, false, false, false, false, false, false] rfl rfl (any_of HT_.out (by kernel_rfl)) (fun _ _ _ h => h) (Or.inr ⟨by rfl, rfl⟩) ?_ ?_
           rotate_left
           ·simp only [Act.put, List.setIfInBounds_toArray, List.set_cons_zero, List.set_cons_succ, i64_w, i32_w, u8_w_]
            rfl
           refine pure_ (i := 10) (N := some 41) (v := undef) (a' := ?_) #[true, true, true, true, true, true, true, true, true, true, true, false, false, false, false, false, false, false, false, false, false, false, false, false, false, false, false, false, false, false, false, false, false, false, false, false, false, false, false, false, false, false, false, false, false] rfl rfl (any_of HT_.out (by kernel_rfl)) (fun _ _ _ h => h) (Or.inr ⟨by rfl, rfl⟩) ?_ ?_
           rotate_left
           ·simp only [Act.put, List.setIfInBounds_toArray, List.set_cons_zero, List.set_cons_succ, i64_w, i32_w, u8_w_]
            rfl
           refine pu_ 11 (some 42) HT_ ?_
           refine pu_ 12 (some 43) HT_ ?_
           refine pure_ (i := 13) (N := some 44) (v := undef) (a' := ?_) #[true, true, true, true, true, true, true, true, true, true, true, true, true, true, false, false, false, false, false, false, false, false, false, false, false, false, false, false, false, false, false, false, false, false, false, false, false, false, false, false, false, false, false, false, false] rfl rfl (any_of HT_.out (by kernel_rfl)) (fun _ _ _ h => h) (Or.inr ⟨by rfl, rfl⟩) ?_ ?_
           rotate_left
           ·simp only [Act.put, List.setIfInBounds_toArray, List.set_cons_zero, List.set_cons_succ, i64_w, i32_w, u8_w_]
            rfl
           refine pure_ (i := 14) (N := some 45) (v := undef) (a' := ?_) #[true, true, true, true, true, true, true, true, true, true, true, true, true, true, true, false, false, false, false, false, false, false, false, false, false, false, false, false, false, false, false, false, false, false, false, false, false, false, false, false, false, false, false, false, false] rfl rfl (any_of HT_.out (by kernel_rfl)) (fun _ _ _ h => h) (Or.inr ⟨by rfl, rfl⟩) ?_ ?_
           rotate_left
           ·simp only [Act.put, List.setIfInBounds_toArray, List.set_cons_zero, List.set_cons_succ, i64_w, i32_w, u8_w_]
            rfl
           refine pure_ (i := 15) (N := some 46) (v := undef) (a' := ?_) #[true, true, true, true, true, true, true, true, true, true, true, true, true, true, true, true, false, false, false, false, false, false, false, false, false, false, false, false, false, false, false, false, false, false, false, false, false, false, false, false, false, false, false, false, false] rfl rfl (any_of HT_.out (by kernel_rfl)) (fun _ _ _ h => h) (Or.inr ⟨by rfl, rfl⟩) ?_ ?_
           rotate_left
           ·simp only [Act.put, List.setIfInBounds_toArray, List.set_cons_zero, List.set_cons_succ, i64_w, i32_w, u8_w_]
            rfl
           refine pure_ (i := 16) (N := some 47) (v := undef) (a' := ?_) #[true, true, true, true, true, true, true, true, true, true, true, true, true, true, true, true, true, false, false, false, false, false, false, false, false, false, false, false, false, false, false, false, false, false, false, false, false, false, false, false, false, false, false, false, false] rfl rfl (any_of HT_.out (by kernel_rfl)) (fun _ _ _ h => h) (Or.inr ⟨by rfl, rfl⟩) ?_ ?_
           rotate_left
           ·simp only [Act.put, List.setIfInBounds_toArray, List.set_cons_zero, List.set_cons_succ, i64_w, i32_w, u8_w_]
            rfl
           refine pure_ (i := 17) (N := some 48) (v := undef) (a' := ?_) #[true, true, true, true, true, true, true, true, true, true, true, true, true, true, true, true, true, true, false, false, false, false, false, false, false, false, false, false, false, false, false, false, false, false, false, false, false, false, false, false, false, false, false, false, false] rfl rfl (any_of HT_.out (by kernel_rfl)) (fun _ _ _ h => h) (Or.inr ⟨by rfl, rfl⟩) ?_ ?_
           rotate_left
           ·simp only [Act.put, List.setIfInBounds_toArray, List.set_cons_zero, List.set_cons_succ, i64_w, i32_w, u8_w_]
            rfl
           refine pure_ (i := 18) (N := some 49) (v := undef) (a' := ?_) #[true, true, true, true, true, true, true, true, true, true, true, true, true, true, true, true, true, true, true, false, false, false, false, false, false, false, false, false, false, false, false, false, false, false, false, false, false, false, false, false, false, false, false, false, false] rfl rfl (any_of HT_.out (by kernel_rfl)) (fun _ _ _ h => h) (Or.inr ⟨by rfl, rfl⟩) ?_ ?_
           rotate_left
           ·simp only [Act.put, List.setIfInBounds_toArray, List.set_cons_zero, List.set_cons_succ, i64_w, i32_w, u8_w_]
            rfl
           refine pure_ (i := 19) (N := some 50) (v := undef) (a' := ?_) #[true, true, true, true, true, true, true, true, true, true, true, true, true, true, true, true, true, true, true, true, false, false, false, false, false, false, false, false, false, false, false, false, false, false, false, false, false, false, false, false, false, false, false, false, false] rfl rfl (any_of HT_.out (by kernel_rfl)) (fun _ _ _ h => h) (Or.inr ⟨by rfl, rfl⟩) ?_ ?_
           rotate_left
           ·simp only [Act.put, List.setIfInBounds_toArray, List.set_cons_zero, List.set_cons_succ, i64_w, i32_w, u8_w_]
            rfl
           refine pure_ (i := 20) (N := some 51) (v := undef) (a' := ?_) #[true, true, true, true, true, true, true, true, true, true, true, true, true, true, true, true, true, true, true, true, true, false, false, false, false, false, false, false, false, false, false, false, false, false, false, false, false, false, false, false, false, false, false, false, false] rfl rfl (any_of HT_.out (by kernel_rfl)) (fun _ _ _ h => h) (Or.inr ⟨by rfl, rfl⟩) ?_ ?_
           rotate_left
           ·simp only [Act.put, List.setIfInBounds_toArray, List.set_cons_zero, List.set_cons_succ, i64_w, i32_w, u8_w_]
            rfl
           refine pu_ 21 (some 52) HT_ ?_
           refine pu_ 22 (some 53) HT_ ?_
           refine pure_ (i := 23) (N := some 54) (v := undef) (a' := ?_) #[true, true, true, true, true, true, true, true, true, true, true, true, true, true, true, true, true, true, true, true, true, true, true, true, false, false, false, false, false, false, false, false, false, false, false, false, false, false, false, false, false, false, false, false, false] rfl rfl (any_of HT_.out (by kernel_rfl)) (fun _ _ _ h => h) (Or.inr ⟨by rfl, rfl⟩) ?_ ?_
           rotate_left
           ·simp only [Act.put, List.setIfInBounds_toArray, List.set_cons_zero, List.set_cons_succ, i64_w, i32_w, u8_w_]
            rfl
           refine pure_ (i := 24) (N := some 55) (v := undef) (a' := ?_) #[true, true, true, true, true, true, true, true, true, true, true, true, true, true, true, true, true, true, true, true, true, true, true, true, true, false, false, false, false, false, false, false, false, false, false, false, false, false, false, false, false, false, false, false, false] rfl rfl (any_of HT_.out (by kernel_rfl)) (fun _ _ _ h => h) (Or.inr ⟨by rfl, rfl⟩) ?_ ?_
           rotate_left
           ·simp only [Act.put, List.setIfInBounds_toArray, List.set_cons_zero, List.set_cons_succ, i64_w, i32_w, u8_w_]
            rfl
           refine pure_ (i := 25) (N := some 56) (v := undef) (a' := ?_) #[true, true, true, true, true, true, true, true, true, true, true, true, true, true, true, true, true, true, true, true, true, true, true, true, true, true, false, false, false, false, false, false, false, false, false, false, false, false, false, false, false, false, false, false, false] rfl rfl (any_of HT_.out (by kernel_rfl)) (fun _ _ _ h => h) (Or.inr ⟨by rfl, rfl⟩) ?_ ?_
           rotate_left
           ·simp only [Act.put, List.setIfInBounds_toArray, List.set_cons_zero, List.set_cons_succ, i64_w, i32_w, u8_w_]
            rfl
           refine pure_ (i := 26) (N := some 57) (v := undef) (a' := ?_) #[true, true, true, true, true, true, true, true, true, true, true, true, true, true, true, true, true, true, true, true, true, true, true, true, true, true, true, false, false, false, false, false, false, false, false, false, false, false, false, false, false, false, false, false, false] rfl rfl (any_of HT_.out (by kernel_rfl)) (fun _ _ _ h => h) (Or.inr ⟨by rfl, rfl⟩) ?_ ?_
           rotate_left
           ·simp only [Act.put, List.setIfInBounds_toArray, List.set_cons_zero, List.set_cons_succ, i64_w, i32_w, u8_w_]
            rfl
           refine pure_ (i := 27) (N := some 58) (v := undef) (a' := ?_) #[true, true, true, true, true, true, true, true, true, true, true, true, true, true, true, true, true, true, true, true, true, true, true, true, true, true, true, true, false, false, false, false, false, false, false, false, false, false, false, false, false, false, false, false, false] rfl rfl (any_of HT_.out (by kernel_rfl)) (fun _ _ _ h => h) (Or.inr ⟨by rfl, rfl⟩) ?_ ?_
           rotate_left
           ·simp only [Act.put, List.setIfInBounds_toArray, List.set_cons_zero, List.set_cons_succ, i64_w, i32_w, u8_w_]
            rfl
           refine pure_ (i := 28) (N := some 59) (v := undef) (a' := ?_) #[true, true, true, true, true, true, true, true, true, true, true, true, true, true, true, true, true, true, true, true, true, true, true, true, true, true, true, true, true, false, false, false, false, false, false, false, false, false, false, false, false, false, false, false, false] rfl rfl (any_of HT_.out (by kernel_rfl)) (fun _ _ _ h => h) (Or.inr ⟨by rfl, rfl⟩) ?_ ?_
           rotate_left
           ·simp only [Act.put, List.setIfInBounds_toArray, List.set_cons_zero, List.set_cons_succ, i64_w, i32_w, u8_w_]
            rfl
           refine pure_ (i := 29) (N := some 60) (v := undef) (a' := ?_) #[true, true, true, true, true, true, true, true, true, true, true, true, true, true, true, true, true, true, true, true, true, true, true, true, true, true, true, true, true, true, false, false, false, false, false, false, false, false, false, false, false, false, false, false, false] rfl rfl (any_of HT_.out (by kernel_rfl)) (fun _ _ _ h => h) (Or.inr ⟨by rfl, rfl⟩) ?_ ?_
           rotate_left
           ·simp only [Act.put, List.setIfInBounds_toArray, List.set_cons_zero, List.set_cons_succ, i64_w, i32_w, u8_w_]
            rfl
           refine pure_ (i := 30) (N := some 61) (v := undef) (a' := ?_) #[true, true, true, true, true, true, true, true, true, true, true, true, true, true, true, true, true, true, true, true, true, true, true, true, true, true, true, true, true, true, true, false, false, false, false, false, false, false, false, false, false, false, false, false, false] rfl rfl (any_of HT_.out (by kernel_rfl)) (fun _ _ _ h => h) (Or.inr ⟨by rfl, rfl⟩) ?_ ?_
           rotate_left
           ·simp only [Act.put, List.setIfInBounds_toArray, List.set_cons_zero, List.set_cons_succ, i64_w, i32_w, u8_w_]
            rfl
           refine pure_ (i := 31) (N := some 62) (v := undef) (a' := ?_) #[true, true, true, true, true, true, true, true, true, true, true, true, true, true, true, true, true, true, true, true, true, true, true, true, true, true, true, true, true, true, true, true, false, false, false, false, false, false, false, false, false, false, false, false, false] rfl rfl (any_of HT_.out (by kernel_rfl)) (fun _ _ _ h => h) (Or.inr ⟨by rfl, rfl⟩) ?_ ?_
           rotate_left
           ·simp only [Act.put, List.setIfInBounds_toArray, List.set_cons_zero, List.set_cons_succ, i64_w, i32_w, u8_w_]
            rfl
           refine pure_ (i := 32) (N := some 63) (v := undef) (a' := ?_) #[true, true, true, true, true, true, true, true, true, true, true, true, true, true, true, true, true, true, true, true, true, true, true, true, true, true, true, true, true, true, true, true, true, false, false, false, false, false, false, false, false, false, false, false, false] rfl rfl (any_of HT_.out (by kernel_rfl)) (fun _ _ _ h => h) (Or.inr ⟨by rfl, rfl⟩) ?_ ?_
           rotate_left
           ·simp only [Act.put, List.setIfInBounds_toArray, List.set_cons_zero, List.set_cons_succ, i64_w, i32_w, u8_w_]
            rfl
           refine pure_ (i := 33) (N := some 64) (v := undef) (a' := ?_) #[true, true, true, true, true, true, true, true, true, true, true, true, true, true, true, true, true, true, true, true, true, true, true, true, true, true, true, true, true, true, true, true, true, true, false, false, false, false, false, false, false, false, false, false, false] rfl rfl (any_of HT_.out (by kernel_rfl)) (fun _ _ _ h => h) (Or.inr ⟨by rfl, rfl⟩) ?_ ?_
           rotate_left
           ·simp only [Act.put, List.setIfInBounds_toArray, List.set_cons_zero, List.set_cons_succ, i64_w, i32_w, u8_w_]
            rfl
           refine pure_ (i := 34) (N := some 65) (v := undef) (a' := ?_) #[true, true, true, true, true, true, true, true, true, true, true, true, true, true, true, true, true, true, true, true, true, true, true, true, true, true, true, true, true, true, true, true, true, true, true, false, false, false, false, false, false, false, false, false, false] rfl rfl (any_of HT_.out (by kernel_rfl)) (fun _ _ _ h => h) (Or.inr ⟨by rfl, rfl⟩) ?_ ?_
           rotate_left
           ·simp only [Act.put, List.setIfInBounds_toArray, List.set_cons_zero, List.set_cons_succ, i64_w, i32_w, u8_w_]
            rfl
           refine pure_ (i := 35) (N := some 66) (v := undef) (a' := ?_) #[true, true, true, true, true, true, true, true, true, true, true, true, true, true, true, true, true, true, true, true, true, true, true, true, true, true, true, true, true, true, true, true, true, true, true, true, false, false, false, false, false, false, false, false, false] rfl rfl (any_of HT_.out (by kernel_rfl)) (fun _ _ _ h => h) (Or.inr ⟨by rfl, rfl⟩) ?_ ?_
           rotate_left
           ·simp only [Act.put, List.setIfInBounds_toArray, List.set_cons_zero, List.set_cons_succ, i64_w, i32_w, u8_w_]
            rfl
           refine pure_ (i := 36) (N := some 67) (v := undef) (a' := ?_) #[true, true, true, true, true, true, true, true, true, true, true, true, true, true, true, true, true, true, true, true, true, true, true, true, true, true, true, true, true, true, true, true, true, true, true, true, true, false, false, false, false, false, false, false, false] rfl rfl (any_of HT_.out (by kernel_rfl)) (fun _ _ _ h => h) (Or.inr ⟨by rfl, rfl⟩) ?_ ?_
           rotate_left
           ·simp only [Act.put, List.setIfInBounds_toArray, List.set_cons_zero, List.set_cons_succ, i64_w, i32_w, u8_w_]
            rfl
           refine pure_ (i := 37) (N := some 68) (v := undef) (a' := ?_) #[true, true, true, true, true, true, true, true, true, true, true, true, true, true, true, true, true, true, true, true, true, true, true, true, true, true, true, true, true, true, true, true, true, true, true, true, true, true, false, false, false, false, false, false, false] rfl rfl (any_of HT_.out (by kernel_rfl)) (fun _ _ _ h => h) (Or.inr ⟨by rfl, rfl⟩) ?_ ?_
           rotate_left
           ·simp only [Act.put, List.setIfInBounds_toArray, List.set_cons_zero, List.set_cons_succ, i64_w, i32_w, u8_w_]
            rfl
           refine pure_ (i := 38) (N := some 69) (v := undef) (a' := ?_) #[true, true, true, true, true, true, true, true, true, true, true, true, true, true, true, true, true, true, true, true, true, true, true, true, true, true, true, true, true, true, true, true, true, true, true, true, true, true, true, false, false, false, false, false, false] rfl rfl (any_of HT_.out (by kernel_rfl)) (fun _ _ _ h => h) (Or.inr ⟨by rfl, rfl⟩) ?_ ?_
           rotate_left
           ·simp only [Act.put, List.setIfInBounds_toArray, List.set_cons_zero, List.set_cons_succ, i64_w, i32_w, u8_w_]
            rfl
           refine pure_ (i := 39) (N := some 70) (v := undef) (a' := ?_) #[true, true, true, true, true, true, true, true, true, true, true, true, true, true, true, true, true, true, true, true, true, true, true, true, true, true, true, true, true, true, true, true, true, true, true, true, true, true, true, true, false, false, false, false, false] rfl rfl (any_of HT_.out (by kernel_rfl)) (fun _ _ _ h => h) (Or.inr ⟨by rfl, rfl⟩) ?_ ?_
           rotate_left
           ·simp only [Act.put, List.setIfInBounds_toArray, List.set_cons_zero, List.set_cons_succ, i64_w, i32_w, u8_w_]
            rfl
           refine pure_ (i := 40) (N := some 71) (v := undef) (a' := ?_) #[true, true, true, true, true, true, true, true, true, true, true, true, true, true, true, true, true, true, true, true, true, true, true, true, true, true, true, true, true, true, true, true, true, true, true, true, true, true, true, true, true, false, false, false, false] rfl rfl (any_of HT_.out (by kernel_rfl)) (fun _ _ _ h => h) (Or.inr ⟨by rfl, rfl⟩) ?_ ?_
           rotate_left
           ·simp only [Act.put, List.setIfInBounds_toArray, List.set_cons_zero, List.set_cons_succ, i64_w, i32_w, u8_w_]
            rfl
           refine pure_ (i := 41) (N := some 72) (v := undef) (a' := ?_) #[true, true, true, true, true, true, true, true, true, true, true, true, true, true, true, true, true, true, true, true, true, true, true, true, true, true, true, true, true, true, true, true, true, true, true, true, true, true, true, true, true, true, false, false, false] rfl rfl (any_of HT_.out (by kernel_rfl)) (fun _ _ _ h => h) (Or.inr ⟨by rfl, rfl⟩) ?_ ?_
           rotate_left
           ·simp only [Act.put, List.setIfInBounds_toArray, List.set_cons_zero, List.set_cons_succ, i64_w, i32_w, u8_w_]
            rfl
           refine pure_ (i := 42) (N := some 73) (v := undef) (a' := ?_) #[true, true, true, true, true, true, true, true, true, true, true, true, true, true, true, true, true, true, true, true, true, true, true, true, true, true, true, true, true, true, true, true, true, true, true, true, true, true, true, true, true, true, true, false, false] rfl rfl (any_of HT_.out (by kernel_rfl)) (fun _ _ _ h => h) (Or.inr ⟨by rfl, rfl⟩) ?_ ?_
           rotate_left
           ·simp only [Act.put, List.setIfInBounds_toArray, List.set_cons_zero, List.set_cons_succ, i64_w, i32_w, u8_w_]
            rfl
           refine pure_ (i := 43) (N := some 74) (v := undef) (a' := ?_) #[true, true, true, true, true, true, true, true, true, true, true, true, true, true, true, true, true, true, true, true, true, true, true, true, true, true, true, true, true, true, true, true, true, true, true, true, true, true, true, true, true, true, true, true, false] rfl rfl (any_of HT_.out (by kernel_rfl)) (fun _ _ _ h => h) (Or.inr ⟨by rfl, rfl⟩) ?_ ?_
           rotate_left
           ·simp only [Act.put, List.setIfInBounds_toArray, List.set_cons_zero, List.set_cons_succ, i64_w, i32_w, u8_w_]
            rfl
           refine pu_ 44 (some 75) HT_ ?_
           refine done_ (done_of HT_.out (by kernel_rfl)) ?_
           try go_wp2
           (try simp only [← hji17])
           go_meet
           case rel => exact ⟨_, (true), (by first | rfl | (simp; done) | (simp [*]; done)), (by first | exact H' | (rw [hji17]; exact H')), ⟨by have := HK1.out; first | omega | exact Nat.le_refl _⟩, ⟨by repeat (first | (with_reducible first | exact HB.out | apply bwA | apply pwN | apply bw1) | exact HB.out)⟩⟩
         ·rw [if_neg c12] at H
          exact absurd H (by simp)
        ·rw [if_neg c11] at H
         exact absurd H (by simp)
       ·rw [if_neg c10] at H
        exact absurd H (by simp)
      case rest =>
       clear HC9
       try clear c1
       try clear q1
       try clear c2
       try clear p2
       try clear c4
       try clear p4
       try clear q4
       try clear hx4
       try clear p6
       try clear c10
       try clear c11
       try clear c12
       try clear q13
       try clear c14
       try clear c18
       try clear c19
       try clear c20
       try clear c23
       try clear c24
       try clear c25
       try clear hx459_0
       try clear hx460_0
       try clear p459
       try clear p460
       try clear q459
       try clear q460
       obtain ⟨kq, x75_8, rfl, HA, HJ8, HB⟩ := hcut
       cases kq with
       | zero => exact absurd HA.out (by simp [spec_l03Greatest.j1])
       | succ kj8 =>
        have H := HA.out
        clear HA
        simp only [spec_l03Greatest.j1] at H
        by_cases c28 : x75_8 = true
        ·subst c28
         rw [if_pos rfl] at H
         have H1 := H
         clear H
         have H := H1
         clear H1
         have H' := Aside0.mk H
         clear H
         go_wp2
         go_roundg kj8
         case measure => have := HK1.out; have := HJ8.out; omega
         case rel => exact ⟨(x11_1), (wrap64 (x12_1 + 1)), (by first | rfl | (simp; done) | (simp [*]; done)), (by first | rfl | (simp; done) | (simp [*]; done)), H', ⟨by have := HK1.out; have := HJ8.out; omega⟩, ⟨by repeat (first | (with_reducible first | exact HB.out | apply bwA | apply pwN | apply bw1) | exact HB.out)⟩⟩
        ·replace c28 := Bool.eq_false_iff.mpr c28
         subst c28
         rw [if_neg (show ¬ (false = true) by decide)] at H
         have H1 := H
         clear H
         have H := H1
         clear H1
         by_cases c29 : 0 ≤ x12_1
         ·rw [if_pos c29] at H
          have c29b0 : decide (0 ≤ x12_1) = true := decide_eq_true c29
          clear c29
          by_cases c30 : x12_1 < (l0.length : Int)
          ·rw [if_pos c30] at H
           have c30b0 : decide (x12_1 < (l0.length : Int)) = true := decide_eq_true c30
           clear c30
           replace H := Option.bind_eq_some_iff.mp H
           obtain ⟨t469, A310, H⟩ := H
           (try dsimp only at H)
           have A31 := Aside0.mk A310
           clear A310
           by_cases c32 : ((rd_T108 l0 x12_1).f0).size + t469.size ≤ 9223372036854775807
           ·rw [if_pos c32] at H
            have c32b0 := eq_true c32
            have c32b1 : decide (((rd_T108 l0 x12_1).f0).size + t469.size ≤ 9223372036854775807) = true := decide_eq_true c32
            try have c32b2 : (9223372036854775807 < ((rd_T108 l0 x12_1).f0).size + t469.size) = False := eq_false (Nat.not_lt.2 c32)
            by_cases c33 : x11_1.toList = ([] : List UInt8)
            ·rw [if_pos c33] at H
             have c33b0 : (x11_1.toList == ([] : List UInt8)) = true := beq_iff_eq.mpr c33
             have c33b1 : (x11_1.toList != ([] : List UInt8)) = false := bne_eq_false_iff_eq.mpr c33
             clear c33
             have H' := Aside0.mk H
             clear H
             try go_wp2
             have n0_ := Aside0.mk (bw1 HB.out)
             clear HB
             have HB := n0_
             clear n0_
             have p468 : 0 ≤ (x12_1 : Int) := of_decide_eq_true (by first | (with_reducible assumption) | assumption)
             have q468 : x12_1 < (l0.length : Int) := of_decide_eq_true (by first | (with_reducible assumption) | assumption)
             obtain ⟨ad468, e468, hx468_0, hx468_1⟩ := at_T108 HR0.out x12_1 p468 q468
             have hw468_1 := hx468_1
             have hw468_0 := hx468_0
             obtain rfl : ad458 = ad468 := (by injection e468)
             replace hx468_0 := (HB.out.cell (World.block_lt_of_cell? w _ hx468_0)).trans hx468_0
             replace hx468_1 := (HB.out.cell (World.block_lt_of_cell? w _ hx468_1)).trans hx468_1
             replace p468 := eq_true p468
             replace q468 := eq_true q468
             refine start_ (n := 13) (S := fun w' => w'.cell? (ad458.add ((x12_1).toNat * 2)) = some (.string ((rd_T108 l0 x12_1).f0)) ∧ w'.cell? ⟨(ad458.add ((x12_1).toNat * 2)).block, (ad458.add ((x12_1).toNat * 2)).off + 1, none⟩ = some (.int .i64 ((rd_T108 l0 x12_1).f1))) (ds := []) #[false, false, false, false, false, false, false, false, false, false, false, false, false] (by kernel_rfl) rfl rfl ⟨((HB.out.cell (World.block_lt_of_cell? w _ hw468_0)).trans hw468_0), ((HB.out.cell (World.block_lt_of_cell? w _ hw468_1)).trans hw468_1)⟩ (fun hHeld => ?_); refine with_tabW spec_l03Greatest.tab9 spec_l03Greatest.bits9 (fun HT_ HW_ => ?_)
             generalize wc.drew = w34 at HB hx468_0 hx468_1 hHeld ⊢
             refine pu_ 0 (some 76) HT_ ?_
             refine pu_ 1 (some 77) HT_ ?_
             refine pu_ 2 (some 78) HT_ ?_
             refine pu_ 3 (some 79) HT_ ?_
             refine pu_ 5 (some 81) HT_ ?_
             refine pu_ 6 (some 82) HT_ ?_
             refine pu_ 7 (some 83) HT_ ?_
             refine pu_ 8 (some 84) HT_ ?_
             refine pu_ 9 (some 85) HT_ ?_
             refine tk_ 4 (some 80) HT_ HW_ hHeld rfl (by rintro w' ⟨s0, s1⟩; go_simp; with_reducible rfl) ?_
             refine on_ 10 (some 86) HT_ fun K hK => ?_
             refine goes_ Try.func28 (by kernel_rfl) rfl #[.slice (some ad458) l0.length c0, .slice A1 l1.length c1, .slice A2 l2.length c2, .int .i64 (wrap64 (a3 - (((rd_T108 l0 x12_1).f0).size : Int))), .int .i64 x12_1] (by rfl) rfl rfl (by (try simp only [List.map_toArray, List.map_cons, List.map_nil]); first | done | rfl | (simp only [List.length_drop, List.length_take]; rfl)) ?_
             with_reducible refine (ih kj8 (by have := HK1.out; have := HJ8.out; omega) _ _ l0 _ _ l1 _ _ l2 (wrap64 (a3 - (((rd_T108 l0 x12_1).f0).size : Int))) x12_1 t469 _ ?side1 ?side2 ?side3 ?side4 ?side5 ?side6 A31.out).mono ?_
             (case side1 => repeat (first | exact (Kd.C_below HR0.out HB.out) | (with_reducible refine Kd.C_alloc ?_ _) | (with_reducible refine Kd.C_drewN ?_ _) | (with_reducible refine Kd.C_drew ?_)))
             (case side2 => exact HC0.out)
             (case side3 => repeat (first | exact (Kd.C_below HR1.out HB.out) | (with_reducible refine Kd.C_alloc ?_ _) | (with_reducible refine Kd.C_drewN ?_ _) | (with_reducible refine Kd.C_drew ?_)))
             (case side4 => exact HC1.out)
             (case side5 => repeat (first | exact (Kd.C_below HR2.out HB.out) | (with_reducible refine Kd.C_alloc ?_ _) | (with_reducible refine Kd.C_drewN ?_ _) | (with_reducible refine Kd.C_drew ?_)))
             (case side6 => exact HC2.out)
             rintro e w35 ⟨rfl, hb⟩
             refine ⟨_, rfl, ?_⟩
             have n0_ := Aside0.mk (below_step (by repeat (first | (with_reducible first | exact HB.out | apply bwA | apply pwN | apply bw1) | exact HB.out)) hb)
             clear HB
             have HB := n0_
             clear n0_
             (try clear hb)
             (try clear hb2)
             (try clear hk)
             (try clear hi)
             refine hK.out _ _ ⟨((HB.out.cell (World.block_lt_of_cell? w _ hw468_0)).trans hw468_0), ((HB.out.cell (World.block_lt_of_cell? w _ hw468_1)).trans hw468_1)⟩ (fun hHeld => ?_)
             clear hK K
             refine nm_ (some 86) ?_
             refine pu_ 11 (some 87) HT_ ?_
             refine pu_ 12 (some 14) HT_ ?_
             refine done_ (done_of HT_.out (by kernel_rfl)) ?_
             try go_wp2
             go_roundg kj8
             case measure => have := HK1.out; have := HJ8.out; omega
             case rel => exact ⟨(((rd_T108 l0 x12_1).f0) ++ t469), (wrap64 (x12_1 + 1)), (by first | rfl | (simp; done) | (simp [*]; done)), (by first | rfl | (simp; done) | (simp [*]; done)), H', ⟨by have := HK1.out; have := HJ8.out; omega⟩, ⟨by repeat (first | (with_reducible first | exact HB.out | apply bwA | apply pwN | apply bw1) | exact HB.out)⟩⟩
            ·rw [if_neg c33] at H
             have c33b0 : (x11_1.toList == ([] : List UInt8)) = false := beq_eq_false_iff_ne.mpr c33
             have c33b1 : (x11_1.toList != ([] : List UInt8)) = true := bne_iff_ne.mpr c33
             by_cases c36 : (Op.bytesLess ((((rd_T108 l0 x12_1).f0) ++ t469).toList) x11_1.toList) = true
             ·rw [if_pos c36] at H
              have c36b0 : (Op.bytesLess ((((rd_T108 l0 x12_1).f0) ++ t469).toList) x11_1.toList) = true := c36
              clear c36
              have H' := Aside0.mk H
              clear H
              try go_wp2
              have n0_ := Aside0.mk (bw1 HB.out)
              clear HB
              have HB := n0_
              clear n0_
              have p468 : 0 ≤ (x12_1 : Int) := of_decide_eq_true (by first | (with_reducible assumption) | assumption)
              have q468 : x12_1 < (l0.length : Int) := of_decide_eq_true (by first | (with_reducible assumption) | assumption)
              obtain ⟨ad468, e468, hx468_0, hx468_1⟩ := at_T108 HR0.out x12_1 p468 q468
              have hw468_1 := hx468_1
              have hw468_0 := hx468_0
              obtain rfl : ad458 = ad468 := (by injection e468)
              replace hx468_0 := (HB.out.cell (World.block_lt_of_cell? w _ hx468_0)).trans hx468_0
              replace hx468_1 := (HB.out.cell (World.block_lt_of_cell? w _ hx468_1)).trans hx468_1
              replace p468 := eq_true p468
              replace q468 := eq_true q468
              refine start_ (n := 13) (S := fun w' => w'.cell? (ad458.add ((x12_1).toNat * 2)) = some (.string ((rd_T108 l0 x12_1).f0)) ∧ w'.cell? ⟨(ad458.add ((x12_1).toNat * 2)).block, (ad458.add ((x12_1).toNat * 2)).off + 1, none⟩ = some (.int .i64 ((rd_T108 l0 x12_1).f1))) (ds := []) #[false, false, false, false, false, false, false, false, false, false, false, false, false] (by kernel_rfl) rfl rfl ⟨((HB.out.cell (World.block_lt_of_cell? w _ hw468_0)).trans hw468_0), ((HB.out.cell (World.block_lt_of_cell? w _ hw468_1)).trans hw468_1)⟩ (fun hHeld => ?_); refine with_tabW spec_l03Greatest.tab9 spec_l03Greatest.bits9 (fun HT_ HW_ => ?_)
              generalize wc.drew = w37 at HB hx468_0 hx468_1 hHeld ⊢
              refine pu_ 0 (some 76) HT_ ?_
              refine pu_ 1 (some 77) HT_ ?_
              refine pu_ 2 (some 78) HT_ ?_
              refine pu_ 3 (some 79) HT_ ?_
              refine pu_ 5 (some 81) HT_ ?_
              refine pu_ 6 (some 82) HT_ ?_
              refine pu_ 7 (some 83) HT_ ?_
              refine pu_ 8 (some 84) HT_ ?_
              refine pu_ 9 (some 85) HT_ ?_
              refine tk_ 4 (some 80) HT_ HW_ hHeld rfl (by rintro w' ⟨s0, s1⟩; go_simp; with_reducible rfl) ?_
              refine on_ 10 (some 86) HT_ fun K hK => ?_
              refine goes_ Try.func28 (by kernel_rfl) rfl #[.slice (some ad458) l0.length c0, .slice A1 l1.length c1, .slice A2 l2.length c2, .int .i64 (wrap64 (a3 - (((rd_T108 l0 x12_1).f0).size : Int))), .int .i64 x12_1] (by rfl) rfl rfl (by (try simp only [List.map_toArray, List.map_cons, List.map_nil]); first | done | rfl | (simp only [List.length_drop, List.length_take]; rfl)) ?_
              with_reducible refine (ih kj8 (by have := HK1.out; have := HJ8.out; omega) _ _ l0 _ _ l1 _ _ l2 (wrap64 (a3 - (((rd_T108 l0 x12_1).f0).size : Int))) x12_1 t469 _ ?side1 ?side2 ?side3 ?side4 ?side5 ?side6 A31.out).mono ?_
              (case side1 => repeat (first | exact (Kd.C_below HR0.out HB.out) | (with_reducible refine Kd.C_alloc ?_ _) | (with_reducible refine Kd.C_drewN ?_ _) | (with_reducible refine Kd.C_drew ?_)))
              (case side2 => exact HC0.out)
              (case side3 => repeat (first | exact (Kd.C_below HR1.out HB.out) | (with_reducible refine Kd.C_alloc ?_ _) | (with_reducible refine Kd.C_drewN ?_ _) | (with_reducible refine Kd.C_drew ?_)))
              (case side4 => exact HC1.out)
              (case side5 => repeat (first | exact (Kd.C_below HR2.out HB.out) | (with_reducible refine Kd.C_alloc ?_ _) | (with_reducible refine Kd.C_drewN ?_ _) | (with_reducible refine Kd.C_drew ?_)))
              (case side6 => exact HC2.out)
              rintro e w38 ⟨rfl, hb⟩
              refine ⟨_, rfl, ?_⟩
              have n0_ := Aside0.mk (below_step (by repeat (first | (with_reducible first | exact HB.out | apply bwA | apply pwN | apply bw1) | exact HB.out)) hb)
              clear HB
              have HB := n0_
              clear n0_
              (try clear hb)
              (try clear hb2)
              (try clear hk)
              (try clear hi)
              refine hK.out _ _ ⟨((HB.out.cell (World.block_lt_of_cell? w _ hw468_0)).trans hw468_0), ((HB.out.cell (World.block_lt_of_cell? w _ hw468_1)).trans hw468_1)⟩ (fun hHeld => ?_)
              clear hK K
              refine nm_ (some 86) ?_
              refine pu_ 11 (some 87) HT_ ?_
              refine pu_ 12 (some 14) HT_ ?_
              refine done_ (done_of HT_.out (by kernel_rfl)) ?_
              try go_wp2
              go_roundg kj8
              case measure => have := HK1.out; have := HJ8.out; omega
              case rel => exact ⟨(((rd_T108 l0 x12_1).f0) ++ t469), (wrap64 (x12_1 + 1)), (by first | rfl | (simp; done) | (simp [*]; done)), (by first | rfl | (simp; done) | (simp [*]; done)), H', ⟨by have := HK1.out; have := HJ8.out; omega⟩, ⟨by repeat (first | (with_reducible first | exact HB.out | apply bwA | apply pwN | apply bw1) | exact HB.out)⟩⟩
             ·rw [if_neg c36] at H
              have c36b0 : (Op.bytesLess ((((rd_T108 l0 x12_1).f0) ++ t469).toList) x11_1.toList) = false := by simpa using c36
              clear c36
              have H' := Aside0.mk H
              clear H
              try go_wp2
              have n0_ := Aside0.mk (bw1 HB.out)
              clear HB
              have HB := n0_
              clear n0_
              have p468 : 0 ≤ (x12_1 : Int) := of_decide_eq_true (by first | (with_reducible assumption) | assumption)
              have q468 : x12_1 < (l0.length : Int) := of_decide_eq_true (by first | (with_reducible assumption) | assumption)
              obtain ⟨ad468, e468, hx468_0, hx468_1⟩ := at_T108 HR0.out x12_1 p468 q468
              have hw468_1 := hx468_1
              have hw468_0 := hx468_0
              obtain rfl : ad458 = ad468 := (by injection e468)
              replace hx468_0 := (HB.out.cell (World.block_lt_of_cell? w _ hx468_0)).trans hx468_0
              replace hx468_1 := (HB.out.cell (World.block_lt_of_cell? w _ hx468_1)).trans hx468_1
              replace p468 := eq_true p468
              replace q468 := eq_true q468
              refine start_ (n := 13) (S := fun w' => w'.cell? (ad458.add ((x12_1).toNat * 2)) = some (.string ((rd_T108 l0 x12_1).f0)) ∧ w'.cell? ⟨(ad458.add ((x12_1).toNat * 2)).block, (ad458.add ((x12_1).toNat * 2)).off + 1, none⟩ = some (.int .i64 ((rd_T108 l0 x12_1).f1))) (ds := []) #[false, false, false, false, false, false, false, false, false, false, false, false, false] (by kernel_rfl) rfl rfl ⟨((HB.out.cell (World.block_lt_of_cell? w _ hw468_0)).trans hw468_0), ((HB.out.cell (World.block_lt_of_cell? w _ hw468_1)).trans hw468_1)⟩ (fun hHeld => ?_); refine with_tabW spec_l03Greatest.tab9 spec_l03Greatest.bits9 (fun HT_ HW_ => ?_)
              generalize wc.drew = w39 at HB hx468_0 hx468_1 hHeld ⊢
              refine pu_ 0 (some 76) HT_ ?_
              refine pu_ 1 (some 77) HT_ ?_
              refine pu_ 2 (some 78) HT_ ?_
              refine pu_ 3 (some 79) HT_ ?_
              refine pu_ 5 (some 81) HT_ ?_
              refine pu_ 6 (some 82) HT_ ?_
              refine pu_ 7 (some 83) HT_ ?_
              refine pu_ 8 (some 84) HT_ ?_
              refine pu_ 9 (some 85) HT_ ?_
              refine tk_ 4 (some 80) HT_ HW_ hHeld rfl (by rintro w' ⟨s0, s1⟩; go_simp; with_reducible rfl) ?_
              refine on_ 10 (some 86) HT_ fun K hK => ?_
              refine goes_ Try.func28 (by kernel_rfl) rfl #[.slice (some ad458) l0.length c0, .slice A1 l1.length c1, .slice A2 l2.length c2, .int .i64 (wrap64 (a3 - (((rd_T108 l0 x12_1).f0).size : Int))), .int .i64 x12_1] (by rfl) rfl rfl (by (try simp only [List.map_toArray, List.map_cons, List.map_nil]); first | done | rfl | (simp only [List.length_drop, List.length_take]; rfl)) ?_
              with_reducible refine (ih kj8 (by have := HK1.out; have := HJ8.out; omega) _ _ l0 _ _ l1 _ _ l2 (wrap64 (a3 - (((rd_T108 l0 x12_1).f0).size : Int))) x12_1 t469 _ ?side1 ?side2 ?side3 ?side4 ?side5 ?side6 A31.out).mono ?_
              (case side1 => repeat (first | exact (Kd.C_below HR0.out HB.out) | (with_reducible refine Kd.C_alloc ?_ _) | (with_reducible refine Kd.C_drewN ?_ _) | (with_reducible refine Kd.C_drew ?_)))
              (case side2 => exact HC0.out)
              (case side3 => repeat (first | exact (Kd.C_below HR1.out HB.out) | (with_reducible refine Kd.C_alloc ?_ _) | (with_reducible refine Kd.C_drewN ?_ _) | (with_reducible refine Kd.C_drew ?_)))
              (case side4 => exact HC1.out)
              (case side5 => repeat (first | exact (Kd.C_below HR2.out HB.out) | (with_reducible refine Kd.C_alloc ?_ _) | (with_reducible refine Kd.C_drewN ?_ _) | (with_reducible refine Kd.C_drew ?_)))
              (case side6 => exact HC2.out)
              rintro e w40 ⟨rfl, hb⟩
              refine ⟨_, rfl, ?_⟩
              have n0_ := Aside0.mk (below_step (by repeat (first | (with_reducible first | exact HB.out | apply bwA | apply pwN | apply bw1) | exact HB.out)) hb)
              clear HB
              have HB := n0_
              clear n0_
              (try clear hb)
              (try clear hb2)
              (try clear hk)
              (try clear hi)
              refine hK.out _ _ ⟨((HB.out.cell (World.block_lt_of_cell? w _ hw468_0)).trans hw468_0), ((HB.out.cell (World.block_lt_of_cell? w _ hw468_1)).trans hw468_1)⟩ (fun hHeld => ?_)
              clear hK K
              refine nm_ (some 86) ?_
              refine pu_ 11 (some 87) HT_ ?_
              refine pu_ 12 (some 14) HT_ ?_
              refine done_ (done_of HT_.out (by kernel_rfl)) ?_
              try go_wp2
              go_roundg kj8
              case measure => have := HK1.out; have := HJ8.out; omega
              case rel => exact ⟨(x11_1), (wrap64 (x12_1 + 1)), (by first | rfl | (simp; done) | (simp [*]; done)), (by first | rfl | (simp; done) | (simp [*]; done)), H', ⟨by have := HK1.out; have := HJ8.out; omega⟩, ⟨by repeat (first | (with_reducible first | exact HB.out | apply bwA | apply pwN | apply bw1) | exact HB.out)⟩⟩
           ·rw [if_neg c32] at H
            exact absurd H (by simp)
          ·rw [if_neg c30] at H
           exact absurd H (by simp)
         ·rw [if_neg c29] at H
          exact absurd H (by simp)
     ·rw [if_neg c8] at H
      exact absurd H (by simp)
    ·rw [if_neg c7] at H
     have c7b0 : decide (x12_1 < (l0.length : Int)) = false := decide_eq_false c7
     clear c7
     obtain rfl := Option.some.inj H
     go_wp2
     go_ret
     exact ⟨by first | rfl | (simp [errW_none, errW_some, i64_w]; done) | (simp [errW_none, errW_some] <;> rfl) | (simp [*, errW_none, errW_some] <;> rfl), by repeat (first | (with_reducible first | exact HB.out | apply bwA | apply pwN | apply bw1) | exact HB.out)⟩
end Go.Proofs.Ytlepbhlbooajmaa.Q
