/- Contracts and plain laws of functions of the given program; no conditions beside those in the theorems. -/
import Derived.Test.YtfnhjoemmiepiaaDoorC0LeastTime
import Derived.Test.YtfnhjoemmiepiaaDoorC1LeastTime
import Derived.Test.YtfnhjoemmiepiaaDoorC2LeastTime
import Derived.Deep.MidRow
import Derived.Lib.LaidTab
import Derived.Lib.ItoaMem
namespace Go.Proofs.YtfnhjoemmiepiaaDoor.Pure
open Go.RowKit Go.Proofs.YtfnhjoemmiepiaaDoor.Ext Go.Proofs.YtfnhjoemmiepiaaDoor.Q Go.Proofs.YtfnhjoemmiepiaaDoorW.PrintWords Go.Proofs.YtfnhjoemmiepiaaDoorW.PrintLast Go.Proofs.YtfnhjoemmiepiaaDoorW.PrintMore
set_option linter.unusedVariables false
set_option linter.unusedSimpArgs false
def wsum (a : Int) : List Int → Int
  | [] => a
  | x :: l => wsum (wrap64 (a + x)) l
theorem specSum_l0 (l : List Int) (hl : l.length ≤ 4611686018427387904) : ∀ (d k n : Nat) (a : Int), n + d = l.length → d < k → spec_l05Sum.l0 k l a n = some (wsum a (l.drop n))
  | 0, k, n, a, hd, hk => by
    obtain ⟨k, rfl⟩ := some_k hk
    simp only [spec_l05Sum.l0]
    rw [if_neg (by omega), List.drop_eq_nil_of_le (by omega)]
    rfl
  | d + 1, k, n, a, hd, hk => by
    obtain ⟨k, rfl⟩ := some_k hk
    simp only [spec_l05Sum.l0]
    rw [if_pos (by omega), if_pos (by omega), wrap_succ n (by omega), specSum_l0 l hl d k (n + 1) _ (by omega) (by omega), drop_cons l n (by omega)]
    rfl
theorem specSum_eq (l : List Int) (hl : l.length ≤ 4611686018427387904) {k : Nat} (hk : l.length < k) : spec_l05Sum.f k l = some (wsum 0 l) := by
  unfold spec_l05Sum.f
  have := specSum_l0 l hl l.length k 0 0 (by omega) hk
  simpa using this
def ownV (H : Int) (t : List Int) (st : List Int × List Int) (b i : Nat) : Int := if rd st.2 (b : Int) + rd t (i : Int) > H then rd st.1 (b : Int) + 1 else rd st.1 (b : Int)
def nowV (H : Int) (t : List Int) (st : List Int × List Int) (b i : Nat) : Int := if rd st.2 (b : Int) + rd t (i : Int) > H then rd t (i : Int) else rd st.2 (b : Int) + rd t (i : Int)
def better (own now x y : Int) : Bool := decide (x < 0) || (decide (own < x) || (decide (own = x) && decide (now < y)))
def dpStep (H : Int) (t : List Int) (set : Nat) (st : List Int × List Int) (i : Nat) : List Int × List Int :=
  if set / 2 ^ i % 2 = 0 then st
  else if better (ownV H t st (set - 2 ^ i) i) (nowV H t st (set - 2 ^ i) i) (rd st.1 (set : Int)) (rd st.2 (set : Int)) = true then (st.1.set set (ownV H t st (set - 2 ^ i) i), st.2.set set (nowV H t st (set - 2 ^ i) i)) else st
def dpSet (H : Int) (t : List Int) (st : List Int × List Int) (set : Nat) : List Int × List Int := (List.range t.length).foldl (dpStep H t set) (st.1.set set (-1), st.2)
def dpAll (H : Int) (t : List Int) : List Int × List Int := (List.range' 1 (2 ^ t.length - 1)).foldl (dpSet H t) (List.replicate (2 ^ t.length) 0, List.replicate (2 ^ t.length) 0)
def leastC (a b : Int) (t : List Int) : Int := wrap64 (wsum 0 t + wrap64 (rd (dpAll (wrap64 a) t).1 ((2 ^ t.length - 1 : Nat) : Int) * wrap64 b))
structure DpOk (M : Nat) (st : List Int × List Int) : Prop where
  l1 : st.1.length = M
  l2 : st.2.length = M
  r1 : ∀ j : Nat, j < M → -1 ≤ rd st.1 (j : Int) ∧ rd st.1 (j : Int) ≤ j
  r2 : ∀ j : Nat, j < M → 0 ≤ rd st.2 (j : Int) ∧ rd st.2 (j : Int) ≤ 40000
theorem rd_set_self (l : List Int) (n : Nat) (v : Int) (h : n < l.length) : rd (l.set n v) (n : Int) = v := by
  unfold rd
  rw [Int.toNat_natCast, List.getD_eq_getElem?_getD, List.getElem?_set_self h]
  rfl
theorem rd_set_ne (l : List Int) (n j : Nat) (v : Int) (h : n ≠ j) : rd (l.set n v) (j : Int) = rd l (j : Int) := by
  unfold rd
  rw [Int.toNat_natCast, List.getD_eq_getElem?_getD, List.getD_eq_getElem?_getD, List.getElem?_set_ne h]
theorem DpOk.put {M : Nat} {st : List Int × List Int} (h : DpOk M st) (n : Nat) (hn : n < M) (x y : Int) (hx : -1 ≤ x ∧ x ≤ n) (hy : 0 ≤ y ∧ y ≤ 40000) : DpOk M (st.1.set n x, st.2.set n y) := by
  refine ⟨by simp only [List.length_set]; exact h.l1, by simp only [List.length_set]; exact h.l2, fun j hj => ?_, fun j hj => ?_⟩
  · by_cases e : n = j
    · subst e; simp only; rw [rd_set_self _ _ _ (by rw [h.l1]; exact hn)]; exact hx
    · simp only; rw [rd_set_ne _ _ _ _ e]; exact h.r1 j hj
  · by_cases e : n = j
    · subst e; simp only; rw [rd_set_self _ _ _ (by rw [h.l2]; exact hn)]; exact hy
    · simp only; rw [rd_set_ne _ _ _ _ e]; exact h.r2 j hj
theorem DpOk.begin {M : Nat} {st : List Int × List Int} (h : DpOk M st) (n : Nat) (hn : n < M) : DpOk M (st.1.set n (-1), st.2) := by
  refine ⟨by simp only [List.length_set]; exact h.l1, h.l2, fun j hj => ?_, h.r2⟩
  by_cases e : n = j
  · subst e; simp only; rw [rd_set_self _ _ _ (by rw [h.l1]; exact hn)]; omega
  · simp only; rw [rd_set_ne _ _ _ _ e]; exact h.r1 j hj
structure TOk (t : List Int) : Prop where
  len : t.length ≤ 8
  rng : ∀ i : Nat, i < t.length → 1 ≤ rd t (i : Int) ∧ rd t (i : Int) ≤ 127
theorem bit_le {set i : Nat} (h : ¬ set / 2 ^ i % 2 = 0) : 2 ^ i ≤ set := by
  apply Classical.byContradiction
  intro hn
  rw [Nat.div_eq_of_lt (by omega)] at h
  exact h rfl
theorem DpOk.step {M : Nat} {H : Int} {t : List Int} (hH : 0 ≤ H ∧ H ≤ 32767) (hT : TOk t) {set : Nat} (hs : set < M) {st : List Int × List Int} (h : DpOk M st) (i : Nat) (hi : i < t.length) : DpOk M (dpStep H t set st i) := by
  unfold dpStep
  split
  · exact h
  · rename_i hb
    have hle := bit_le hb
    have hp : 0 < 2 ^ i := Nat.pow_pos (by omega)
    split
    · have a1 := h.r1 (set - 2 ^ i) (by omega)
      have a2 := h.r2 (set - 2 ^ i) (by omega)
      have a3 := hT.rng i hi
      refine h.put set hs _ _ ?_ ?_
      · unfold ownV; split <;> omega
      · unfold nowV; split <;> omega
    · exact h
theorem dp_zero (M : Nat) : DpOk M (List.replicate M 0, List.replicate M 0) := by
  have h : ∀ j : Nat, rd (List.replicate M 0) (j : Int) = 0 := by
    intro j
    unfold rd
    rw [List.getD_eq_getElem?_getD, List.getElem?_replicate]
    split <;> rfl
  exact ⟨by simp, by simp, fun j _ => by simp only; rw [h]; omega, fun j _ => by simp only; rw [h]; omega⟩
theorem shl_eq (i : Nat) (h : i ≤ 8) : shl .i64 1 (IntKind.u64.wrap (i : Int)) = ((2 ^ i : Nat) : Int) := by
  match i, h with
  | 0, _ => rfl
  | 1, _ => rfl
  | 2, _ => rfl
  | 3, _ => rfl
  | 4, _ => rfl
  | 5, _ => rfl
  | 6, _ => rfl
  | 7, _ => rfl
  | 8, _ => rfl
  | i + 9, h => omega
theorem u64_self (i : Nat) (h : i ≤ 8) : IntKind.u64.wrap (i : Int) = (i : Int) := by
  simp [IntKind.wrap, IntKind.signed, IntKind.bits]; omega
theorem shr_nat (s i : Nat) (h : i ≤ 8) : shr .i64 (s : Int) (i : Int) = ((s / 2 ^ i : Nat) : Int) := by
  unfold shr
  rw [Int.toNat_natCast, Nat.min_eq_left (by simp [IntKind.bits]; omega)]
  simp
theorem tmod2 (n : Nat) : Int.tmod (n : Int) 2 = 0 ↔ n % 2 = 0 := by
  rw [Int.tmod_eq_emod_of_nonneg (by omega)]; omega
theorem w6i {x : Int} (h : -9223372036854775808 ≤ x ∧ x ≤ 9223372036854775807) : wrap64 x = x := by unfold wrap64; omega
theorem pick3 {α : Type} (L : Prop) [Decidable L] (hL : L) (own now x y : Int) (A B N : α) :
    (if x < 0 then (if L then A else N) else (if own < x then (if L then A else N) else (if own = x then (if L then (if now < y then A else B) else N) else B))) = if better own now x y = true then A else B := by
  simp only [if_pos hL]
  unfold better
  by_cases h1 : x < 0
  · simp [h1]
  · by_cases h2 : own < x
    · simp [h1, h2]
    · by_cases h3 : own = x
      · simp [h1, h2, h3]
      · simp [h1, h2, h3]
theorem bef_eq {s p : Nat} (h : p ≤ s) (hs : s ≤ 4611686018427387904) : wrap64 ((s : Int) - (p : Int)) = ((s - p : Nat) : Int) := by
  rw [w6i (by omega)]; omega
theorem specLeast_l1 (a b : Int) (ha : 0 ≤ a ∧ a ≤ 32767) (t : List Int) (hT : TOk t) (M : Nat) (hM : M = 2 ^ t.length) (hM2 : M ≤ 256) (s : Nat) (hs : s < M) (h1 : 1 ≤ s) : ∀ (d k i : Nat) (st : List Int × List Int), i + d = t.length → DpOk M st →
    spec_l05Least.l1 (k + 1 + d) t (t.length : Int) st.1 st.2 (s : Int) (i : Int) a b = spec_l05Least.l0 k t (t.length : Int) ((List.range' i d).foldl (dpStep a t s) st).1 ((List.range' i d).foldl (dpStep a t s) st).2 ((s + 1 : Nat) : Int) a b
  | 0, k, i, st, hd, hst => by
    simp only [spec_l05Least.l1, Nat.add_zero]
    rw [if_neg (by omega), wrap_succ s (by omega)]
    rfl
  | d + 1, k, i, st, hd, hst => by
    have hi8 : i ≤ 8 := by have := hT.len; omega
    have hi : i < t.length := by omega
    have r := hT.rng i hi
    have hs1 := hst.l1
    have hs2 := hst.l2
    have hst2 := hst.step ha hT hs i hi
    have ih : ∀ st2, DpOk M st2 → spec_l05Least.l1 (k + 1 + d) t (t.length : Int) st2.1 st2.2 (s : Int) (wrap64 ((i : Int) + 1)) a b = spec_l05Least.l0 k t (t.length : Int) ((List.range' (i + 1) d).foldl (dpStep a t s) st2).1 ((List.range' (i + 1) d).foldl (dpStep a t s) st2).2 ((s + 1 : Nat) : Int) a b := fun st2 h2 => by
      rw [wrap_succ i (by omega)]
      exact specLeast_l1 a b ha t hT M hM hM2 s hs h1 d k (i + 1) st2 (by omega) h2
    rw [List.range'_succ, List.foldl_cons, ← ih _ hst2]
    rw [show k + 1 + (d + 1) = (k + 1 + d) + 1 by omega]
    simp only [spec_l05Least.l1]
    rw [if_pos (by omega), u64_self i hi8, if_pos (by omega), shr_nat s i hi8]
    by_cases hb : s / 2 ^ i % 2 = 0
    · rw [if_pos ((tmod2 _).2 hb)]
      unfold dpStep
      rw [if_pos hb]
    · have hle := bit_le hb
      have hp : 0 < 2 ^ i := Nat.pow_pos (by omega)
      have hsh := shl_eq i hi8
      rw [u64_self i hi8] at hsh
      have b1 := hst.r1 (s - 2 ^ i) (by omega)
      have b2 := hst.r2 (s - 2 ^ i) (by omega)
      have b3 := hst.r1 s hs
      rw [if_neg (fun h => hb ((tmod2 _).1 h)), hsh, bef_eq hle (by omega)]
      rw [if_pos (by omega), if_pos (by omega), if_pos (by omega), if_pos (by omega), if_pos (by omega)]
      rw [w6i (x := rd st.2 ((s - 2 ^ i : Nat) : Int) + rd t (i : Int)) (by omega), w6i (x := a) (by omega), w6i (x := rd st.1 ((s - 2 ^ i : Nat) : Int) + 1) (by omega)]
      unfold dpStep
      rw [if_neg hb]
      unfold ownV nowV
      rw [Int.toNat_natCast]
      by_cases hH : rd st.2 ((s - 2 ^ i : Nat) : Int) + rd t (i : Int) > a
      · rw [if_pos hH, if_pos hH, if_pos hH, if_pos (by omega), if_pos (by omega), pick3 _ (by omega)]
        split <;> rfl
      · rw [if_neg hH, if_neg hH, if_neg hH, if_pos (by omega), if_pos (by omega), pick3 _ (by omega)]
        split <;> rfl
theorem dpSet_ok {a : Int} (ha : 0 ≤ a ∧ a ≤ 32767) {t : List Int} (hT : TOk t) {M : Nat} {s : Nat} (hs : s < M) : ∀ (d i : Nat) (st : List Int × List Int), i + d = t.length → DpOk M st → DpOk M ((List.range' i d).foldl (dpStep a t s) st)
  | 0, i, st, hd, h => h
  | d + 1, i, st, hd, h => by
    rw [List.range'_succ, List.foldl_cons]
    exact dpSet_ok ha hT hs d (i + 1) _ (by omega) (h.step ha hT hs i (by omega))
theorem dpSet_range (a : Int) (t : List Int) (st : List Int × List Int) (s : Nat) : dpSet a t st s = (List.range' 0 t.length).foldl (dpStep a t s) (st.1.set s (-1), st.2) := by
  unfold dpSet
  rw [List.range_eq_range']
theorem DpOk.sets {a : Int} (ha : 0 ≤ a ∧ a ≤ 32767) {t : List Int} (hT : TOk t) {M : Nat} {s : Nat} (hs : s < M) {st : List Int × List Int} (h : DpOk M st) : DpOk M (dpSet a t st s) := by
  rw [dpSet_range]
  exact dpSet_ok ha hT hs t.length 0 _ (by omega) (h.begin s hs)
theorem specLeast_l0 (a b : Int) (ha : 0 ≤ a ∧ a ≤ 32767) (t : List Int) (hT : TOk t) (M : Nat) (hM : M = 2 ^ t.length) (hM2 : M ≤ 256) : ∀ (d k s : Nat) (st : List Int × List Int), s + d = M → 1 ≤ s → DpOk M st → 20 ≤ k →
    spec_l05Least.l0 (k + d * (t.length + 2)) t (t.length : Int) st.1 st.2 (s : Int) a b = some (wrap64 (wsum 0 t + wrap64 (rd ((List.range' s d).foldl (dpSet a t) st).1 ((M - 1 : Nat) : Int) * wrap64 b)))
  | 0, k, s, st, hd, h1, hst, hk => by
    obtain ⟨k, rfl⟩ := some_k (show 0 < k by omega)
    have hl := hst.l1
    have := hT.len
    simp only [Nat.zero_mul, Nat.add_zero, spec_l05Least.l0]
    rw [if_neg (by omega), specSum_eq t (by omega) (by omega), Option.bind_some, hl, w6i (x := (M : Int) - 1) (by omega), if_pos (by omega), if_pos (by omega), show ((M : Int) - 1) = ((M - 1 : Nat) : Int) by omega]
    rfl
  | d + 1, k, s, st, hd, h1, hst, hk => by
    have hl := hst.l1
    have hs : s < M := by omega
    have e : k + (d + 1) * (t.length + 2) = ((k + d * (t.length + 2)) + 1 + t.length) + 1 := by rw [Nat.succ_mul]; omega
    rw [e]
    simp only [spec_l05Least.l0]
    rw [if_pos (by omega), if_pos (by omega), Int.toNat_natCast]
    have q := specLeast_l1 a b ha t hT M hM hM2 s hs h1 t.length (k + d * (t.length + 2)) 0 (st.1.set s (-1), st.2) (by omega) (hst.begin s hs)
    have q2 : spec_l05Least.l1 (k + d * (t.length + 2) + 1 + t.length) t (t.length : Int) (st.1.set s (-1)) st.2 (s : Int) 0 a b = _ := q
    rw [q2, ← dpSet_range]
    rw [specLeast_l0 a b ha t hT M hM hM2 d k (s + 1) _ (by omega) (by omega) (hst.sets ha hT hs) hk]
    rw [List.range'_succ, List.foldl_cons]
theorem pow_len {t : List Int} (hT : TOk t) : 2 ^ t.length ≤ 256 := by
  have := Nat.pow_le_pow_right (n := 2) (by omega) hT.len
  simpa using this
theorem specLeast_eq (a b : Int) (ha : 0 ≤ a ∧ a ≤ 32767) (t : List Int) (hT : TOk t) : spec_l05Least.f 5000 a b t = some (leastC a b t) := by
  have hM := pow_len hT
  have hp : 0 < 2 ^ t.length := Nat.pow_pos (by omega)
  unfold spec_l05Least.f
  have hsh := shl_eq t.length hT.len
  rw [u64_self _ hT.len] at hsh ⊢
  rw [if_pos (by omega), hsh, if_pos (by omega), Int.toNat_natCast, if_pos (by omega)]
  have hz := dp_zero (2 ^ t.length)
  have q := specLeast_l0 a b ha t hT _ rfl hM (2 ^ t.length - 1) (5000 - (2 ^ t.length - 1) * (t.length + 2)) 1 (List.replicate (2 ^ t.length) 0, List.replicate (2 ^ t.length) 0) (by omega) (by omega) hz (by
    have h8 := hT.len
    have : (2 ^ t.length - 1) * (t.length + 2) ≤ 255 * 10 := Nat.mul_le_mul (by omega) (by omega)
    omega)
  have e : 5000 - (2 ^ t.length - 1) * (t.length + 2) + (2 ^ t.length - 1) * (t.length + 2) = 5000 := by
    have h8 := hT.len
    have : (2 ^ t.length - 1) * (t.length + 2) ≤ 255 * 10 := Nat.mul_le_mul (by omega) (by omega)
    omega
  rw [e] at q
  have q2 : spec_l05Least.l0 5000 t (t.length : Int) (List.replicate (2 ^ t.length) 0) (List.replicate (2 ^ t.length) 0) 1 a b = _ := q
  rw [q2]
  unfold leastC dpAll
  rw [w6i (x := a) (by omega)]
end Go.Proofs.YtfnhjoemmiepiaaDoor.Pure
namespace Go.Proofs.YtfnhjoemmiepiaaDoor.Ext
open Go.RowKit Go.Proofs.YtfnhjoemmiepiaaDoorW.PrintWords Go.Proofs.YtfnhjoemmiepiaaDoorW.PrintLast Go.Proofs.YtfnhjoemmiepiaaDoorW.PrintMore
set_option linter.unusedVariables false
set_option linter.unusedSimpArgs false
def cellsK (k : IntKind) (l : List Int) : Array Value := (nums k l).toArray
theorem cellsK_size (k : IntKind) (l : List Int) : (cellsK k l).size = l.length := by simp [cellsK, nums]
theorem cellsK_get (k : IntKind) (l : List Int) (n : Nat) (h : n < l.length) : (cellsK k l)[n]? = some (.int k (rd l n)) := by
  simp [cellsK, nums, rd, List.getD_eq_getElem?_getD, List.getElem?_eq_getElem h]
theorem cellsK_one (k : IntKind) (l : List Int) : (cellsK k l).all (·.oneCell') = true := by
  rw [Array.all_eq_true_iff_forall_mem]
  intro v hv
  simp only [cellsK, nums, List.mem_toArray, List.mem_map] at hv
  obtain ⟨x, _, rfl⟩ := hv
  rfl
theorem cellsK_set (k : IntKind) (l : List Int) (n : Nat) (x : Int) : (cellsK k l).setIfInBounds n (.int k x) = cellsK k (l.set n x) := by
  simp [cellsK, nums, List.map_set]
theorem cellsK_cell {w : World} {g : Nat} {t : TypeId} {k : IntKind} {l : List Int} (h : w.heap[g]? = some (.cells (cellsK k l) t (0, 0))) (n : Nat) (hn : n < l.length) : w.cell? ⟨g, n, none⟩ = some (.int k (rd l n)) :=
  (blk_cell h n).trans (cellsK_get k l n hn)
theorem blk_at {W : World} {n : Nat} (h : W.heap.size = n) (o : Obj) : (W.alloc o).heap[n]? = some o := by subst h; exact blk_new W o
theorem rd_mem' (l : List Int) (n : Nat) (h : n < l.length) : rd l n ∈ l := by
  have e : rd l n = l[n] := by simp [rd, List.getD_eq_getElem?_getD, List.getElem?_eq_getElem h]
  rw [e]; exact List.getElem_mem h
theorem all_snoc' (p : Int → Bool) (l : List Int) (n : Nat) (h : n < l.length) : (l.take (n + 1)).all p = ((l.take n).all p && p (rd l n)) := by
  have e : rd l n = l[n] := by simp [rd, List.getD_eq_getElem?_getD, List.getElem?_eq_getElem h]
  rw [List.take_succ_eq_append_getElem h, List.all_append, e]; simp
theorem all_take_false (p : Int → Bool) (l : List Int) (n : Nat) (h : n < l.length) (hp : p (rd l n) = false) : l.all p = false := by
  rw [Bool.eq_false_iff]
  intro ha
  have := List.all_eq_true.1 ha _ (rd_mem' l n h)
  rw [hp] at this; cases this
def copied (l : List Int) (n : Nat) : List Int := l.take n ++ List.replicate (l.length - n) 0
theorem copied_len (l : List Int) (n : Nat) (h : n ≤ l.length) : (copied l n).length = l.length := by simp [copied]; omega
theorem copied_succ (l : List Int) (n : Nat) (h : n < l.length) : (copied l n).set n (rd l n) = copied l (n + 1) := by
  have e : rd l n = l[n] := by simp [rd, List.getD_eq_getElem?_getD, List.getElem?_eq_getElem h]
  unfold copied
  rw [List.set_append_right _ _ (by simp <;> omega), List.take_succ_eq_append_getElem h, e, List.append_assoc]
  congr 1
  obtain ⟨m, hm⟩ : ∃ m, l.length - n = m + 1 := ⟨l.length - n - 1, by omega⟩
  rw [hm, show l.length - (n + 1) = m by omega, List.replicate_succ]
  simp [show n - min n l.length = 0 by omega]
theorem copied_full (l : List Int) : copied l l.length = l := by simp [copied]
theorem copied_zero (l : List Int) : copied l 0 = List.replicate l.length 0 := by simp [copied]
section
variable {P : Program} {ops : Array Oper} {rest : List Oper} {o : Oper} {a : Act} {Q : Exit → Act → World → Prop} {W : World}
theorem ev_store_row (hgd : o.guard = none) (ty : TypeId) (x y : Operand) (ho : o.op = .store ty x y) (hN : o.dst = none)
    (g : Nat) (cells : Array Value) (hx : a.eval x = .pointer (some ⟨g, 0, none⟩)) (hy : a.eval y = .agg cells)
    (t : TypeId) (old : Array Value) (hg : W.heap[g]? = some (.cells old t (0, 0))) (hi : (P.info? ty).map (·.size) = some cells.size)
    (hold : old.size = cells.size) (h1 : cells.all (·.oneCell') = true)
    (h : ∀ w1, w1.heap[g]? = some (.cells cells t (0, 0)) → Kept W w1 (fun k => k = g) → (∀ B, B ≤ g → Below B W w1) → wpList P ops Q rest a w1) : wpList P ops Q (o :: rest) a W := by
  refine wpList_store_row hgd ty x y ho g cells hx hy t old hg hi hold h1 ?_
  rw [hN]
  refine h _ (setRow_heap W g old cells t (0, 0) hg) ⟨by simp, fun i hi hn => setRow_other W g i cells hn⟩ (fun B hB => ⟨rfl, rfl, rfl, by simp, fun k hk => setRow_other W g k cells (by omega)⟩)
end
theorem info_laws_toStrokes : (Tryd.prog.info? 29).map (·.size) = some 26 := by kernel_rfl
set_option maxHeartbeats 1000000 in
theorem laws_toStrokes_calls (l : List Int) (hl : l.length = 26) (w : World) :
    Calls Tryd.prog 8 #[.agg (cellsK .i8 l)] w fun e w' => e = .returned (.agg (cellsK .i8 l)) ∧ Below w.heap.size w w' := by
  have HZ : Aside0 (cellsK .i8 (copied l 0) = cellsK .i8 (List.replicate 26 0)) := ⟨by rw [copied_zero, hl]⟩
  have HZ2 : Aside0 (cellsK .i8 (List.replicate 26 0) = #[.int .i8 0, .int .i8 0, .int .i8 0, .int .i8 0, .int .i8 0, .int .i8 0, .int .i8 0, .int .i8 0, .int .i8 0, .int .i8 0, .int .i8 0, .int .i8 0, .int .i8 0, .int .i8 0, .int .i8 0, .int .i8 0, .int .i8 0, .int .i8 0, .int .i8 0, .int .i8 0, .int .i8 0, .int .i8 0, .int .i8 0, .int .i8 0, .int .i8 0, .int .i8 0]) := ⟨rfl⟩
  obtain ⟨X, hX⟩ : ∃ X, X = cellsK .i8 l := ⟨_, rfl⟩
  rw [← hX]
  have HX := Aside0.mk hX
  clear hX
  go_enter Tryd.func8, Tryd.ntmps8
  go_wp2
  go_loopw [4] (fun i wr => ∃ n : Nat, n ≤ 26 ∧ i = .int .i64 n ∧ Aside0 (wr.heap[w.heap.size]? = some (.cells X 23 (0, 0))) ∧ Aside0 (∃ cs, cs.size = 26 ∧ wr.heap[w.heap.size + 1]? = some (.cells cs 29 (0, 0))) ∧ Aside0 (wr.heap[w.heap.size + 2]? = some (.cells (cellsK .i8 (copied l n)) 29 (0, 0))) ∧ Aside0 (Below w.heap.size w wr)) (fun i _ => 26 - (intOf i).toNat)
  case atStart => 
    refine ⟨0, by omega, rfl, ⟨?_⟩, ⟨cellsK .i8 (List.replicate 26 0), ?_, ?_⟩, ⟨?_⟩, ⟨?_⟩⟩
    · exact blk_alloc (blk_alloc (blk_new w _) _) _
    · rw [cellsK_size]; simp
    · rw [HZ2.out]
      exact blk_alloc (blk_at (by simp) _) _
    · rw [HZ.out, HZ2.out]
      exact blk_at (by simp) _
    · exact (((Below.refl _ _).alloc (Nat.le_refl _) _).alloc (by simp) _).alloc (by simp <;> omega) _
  case round =>
    obtain ⟨n, hn, rfl, H0, H1, H2, HB⟩ := hrel
    clear HZ HZ2
    by_cases hlt : n < 26
    · have hltz : (n : Int) < 26 := by omega
      have hc : wr.cell? ⟨w.heap.size, n, none⟩ = some (.int .i8 (rd l n)) := cellsK_cell (k := .i8) (l := l) (by rw [← HX.out]; exact H0.out) n (by omega)
      have hc2 : wr.cell? ⟨w.heap.size + 2, n, none⟩ = some (.int .i8 (rd (copied l n) n)) := cellsK_cell H2.out n (by rw [copied_len _ _ (by omega)]; omega)
      have hf2 : wr.frozen? ⟨w.heap.size + 2, n, none⟩ = false := blk_frozen H2.out n
      have hl' := hid hl
      clear hl
      generalize hy : rd l n = y at hc
      have HY := Aside0.mk hy
      clear hy
      go_wp2
      go_roundw
      case rel =>
        refine ⟨n + 1, by omega, by go_num, ⟨?_⟩, ⟨?_⟩, ⟨?_⟩, ⟨?_⟩⟩
        · exact blk_far H0.out (by simp <;> omega) _
        · obtain ⟨cs, h1, h2⟩ := H1.out
          exact ⟨cs, h1, blk_far h2 (by simp <;> omega) _⟩
        · have := blk_set H2.out n (.int .i8 y)
          rw [cellsK_set, ← HY.out, copied_succ l n (by rw [hl'.out]; omega)] at this
          rw [← HY.out]
          exact this
        · exact HB.out.setCell (by simp <;> omega) _
      case measure => simp [intOf]; omega
    · have hltz : ¬ (n : Int) < 26 := by omega
      obtain rfl : n = 26 := by omega
      have hcop : copied l 26 = l := by rw [← hl]; exact copied_full l
      rw [hcop, ← HX.out] at H2
      have hs : X.size = 26 := by rw [HX.out, cellsK_size, hl]
      have hone : X.all (·.oneCell') = true := by rw [HX.out]; exact cellsK_one _ _
      have hl' := hid hl
      have hs' := hid hs
      have hone' := hid hone
      obtain ⟨cs, hcs, H1⟩ := H1.out
      have H1 := Aside0.mk H1
      have hcs' := hid hcs
      clear hl hcop hs hone hcs
      go_wp2_with (first | ((with_reducible refine gate_dst (N := 14) rfl ?_); refine wpList_load_row rfl 29 (.tmp 3) rfl (w.heap.size + 2) rfl _ _ _ _ H2.out Tryd.underlying29 rfl (by rw [hs'.out]; exact info_laws_toStrokes) ?_) | ((with_reducible refine gate_store (t := 29) (p := 2) rfl ?_); refine ev_store_row rfl 29 (.tmp 2) (.tmp 14) rfl rfl (w.heap.size + 1) X rfl rfl _ cs H1.out (by rw [hs'.out]; exact info_laws_toStrokes) (by rw [hs'.out, hcs'.out]) hone'.out ?_; intro w1 hb1 hk1 hbel))
      refine bodyPost_ret (results_cell_row rfl _ _ (w.heap.size + 1) _ X (0, 0) _ rfl hb1 Tryd.underlying29 rfl (by rw [hs'.out]; exact info_laws_toStrokes)) rfl ⟨rfl, ?_⟩
      exact HB.out.trans (hbel _ (by omega))
open Go.RowKit Go.Proofs.YtfnhjoemmiepiaaDoorW.PrintWords Go.Proofs.YtfnhjoemmiepiaaDoorW.PrintLast Go.Proofs.YtfnhjoemmiepiaaDoorW.PrintMore
set_option linter.unusedVariables false
set_option linter.unusedSimpArgs false
def Predi8 (g : Nat) (lb : Array Value) (p : Int → Bool) (w : World) : Prop :=
  ∀ (W : World) (x : Int), Below w.heap.size w W → Calls Tryd.prog g (#[.int .i8 x] ++ lb) W fun e w' => e = .returned (.bool (p x)) ∧ Below w.heap.size w w'
set_option maxHeartbeats 1000000 in
theorem indexFunc_i8 (g : Nat) (lb : Array Value) (p : Int → Bool) (eg : ∀ args w, (callFunc g args).run Tryd.prog w = .ok (.enter g args) w) (A : Option Addr) (c : Nat) (l : List Int) (w : World)
    (hp : Predi8 g lb p w) (hr : Kd.C (Kd.int .i8) w A l.length l) :
    Calls Tryd.prog 60 #[.slice A l.length c, .func (.func g) #[] lb] w fun e w' => e = .returned (.int .i64 (idxI p l)) ∧ Below w.heap.size w w' := by
  have HR := Aside0.mk hr
  have hbig : l.length ≤ 9223372036854775807 := hr.2.1
  clear hr
  go_enter Tryd.func60, Tryd.ntmps60
  go_wp2
  go_loopg [5, 8] l.length (fun gg _ s8 wr => ∃ kk : Nat, kk ≤ l.length ∧ l.length - kk ≤ gg ∧ s8 = .int .i64 kk ∧ Aside0 (Below w.heap.size w wr) ∧ Aside0 (∀ j, j < kk → p (l.getD j 0) = false))
  case atStart => exact ⟨0, Nat.zero_le _, by omega, rfl, ⟨Below.refl _ w⟩, ⟨fun j hj => absurd hj (Nat.not_lt_zero _)⟩⟩
  case round =>
    obtain ⟨kk, hkk, hg, rfl, BW, A1⟩ := hrel
    by_cases hlt : kk < l.length
    · have hltz : (kk : Int) < (l.length : Int) := by omega
      obtain ⟨ad, rfl, hc0⟩ := Kd.at_int HR.out kk (by omega) (by omega)
      rw [Int.toNat_natCast] at hc0
      have hc := (BW.out.cell (World.block_lt_of_cell? w _ hc0)).trans hc0
      have hcall := hp wr (rd l kk) BW.out
      clear hc0 hp
      generalize hy : rd l kk = y at hc hcall
      have B := Aside0.mk hy
      clear hy
      cases hq : p y with
      | true =>
        rw [hq] at hcall
        go_wp2_with fail
        refine hcall.mono ?_
        rintro e w' ⟨rfl, hb'⟩
        go_wp2_with fail
        go_ret
        refine ⟨?_, hb'⟩
        rw [idxI_hit p l kk hlt (by have := B.out; unfold rd at this; simp only [Int.toNat_natCast] at this; rw [this]; exact hq) A1.out]
        rfl
      | false =>
        rw [hq] at hcall
        go_wp2_with fail
        refine hcall.mono ?_
        rintro e w' ⟨rfl, hb'⟩
        go_wp2_with fail
        go_roundg (l.length - (kk + 1))
        case measure => omega
        case rel =>
          refine ⟨kk + 1, by omega, by omega, by go_num, ⟨hb'⟩, ⟨fun j hj => ?_⟩⟩
          by_cases e : j = kk
          · subst e
            have := B.out; unfold rd at this; simp only [Int.toNat_natCast] at this; rw [this]; exact hq
          · exact A1.out j (by omega)
    · have hltz : ¬ (kk : Int) < (l.length : Int) := by omega
      have : kk = l.length := by omega
      subst this
      go_wp2
      go_ret
      refine ⟨?_, BW.out⟩
      rw [idxI_miss p l A1.out]
      rfl
set_option maxHeartbeats 1000000 in
theorem containsFunc_i8 (g : Nat) (lb : Array Value) (p : Int → Bool) (eg : ∀ args w, (callFunc g args).run Tryd.prog w = .ok (.enter g args) w) (A : Option Addr) (c : Nat) (l : List Int) (w : World)
    (hp : Predi8 g lb p w) (hr : Kd.C (Kd.int .i8) w A l.length l) :
    Calls Tryd.prog 49 #[.slice A l.length c, .func (.func g) #[] lb] w fun e w' => e = .returned (.bool (l.any p)) ∧ Below w.heap.size w w' := by
  rw [← idxI_any]
  go_enter Tryd.func49, Tryd.ntmps49
  go_wp2_with (go_at_call 60; refine (indexFunc_i8 g lb p eg A c l _ hp hr).mono ?_; rintro e w' ⟨rfl, hb'⟩)
  go_ret
  exact ⟨rfl, hb'⟩
theorem containsFunc_i8_n (g : Nat) (lb : Array Value) (p : Int → Bool) (eg : ∀ args w, (callFunc g args).run Tryd.prog w = .ok (.enter g args) w) (A : Option Addr) (n c : Nat) (l : List Int) (hn : l.length = n) (w : World)
    (hp : Predi8 g lb p w) (hr : Kd.C (Kd.int .i8) w A l.length l) :
    Calls Tryd.prog 49 #[.slice A n c, .func (.func g) #[] lb] w fun e w' => e = .returned (.bool (l.any p)) ∧ Below w.heap.size w w' := by
  subst hn
  exact containsFunc_i8 g lb p eg A c l w hp hr
set_option maxHeartbeats 400000 in
theorem in_calls (a b c : Int) (w : World) :
    Calls Tryd.prog 46 #[.int .i64 a, .int .i64 b, .int .i64 c] w fun e w' => e = .returned (.bool (inB a b c)) ∧ w = w' := by
  unfold inB
  by_cases h : b ≤ a
  · have h1 : decide (b ≤ a) = true := by simpa using h
    go_enter Tryd.func46, Tryd.ntmps46
    go_wp2
    go_ret
    exact ⟨by simp [h], rfl⟩
  · have h1 : decide (b ≤ a) = false := by simpa using h
    go_enter Tryd.func46, Tryd.ntmps46
    go_wp2
    go_ret
    exact ⟨by simp [h], rfl⟩
def strokesB (l : List Int) : Bool := l.all fun n => inB n 1 30
set_option maxHeartbeats 1000000 in
theorem l05Strokes_calls (g : Nat) (l : List Int) (hl : l.length = 26) (hw : ∀ y ∈ l, -128 ≤ y ∧ y ≤ 127) (w : World) (hb : w.heap[g]? = some (.cells (cellsK .i8 l) 29 (0, 0))) :
    Calls Tryd.prog 29 #[.pointer (some ⟨g, 0, none⟩)] w fun e w' => e = .returned (.bool (strokesB l)) ∧ w = w' := by
  have HB := Aside0.mk hb
  have HL := Aside0.mk hl
  clear hb hl
  go_enter Tryd.func29, Tryd.ntmps29
  go_wp2
  go_loop [3] (fun i => ∃ n : Nat, n ≤ 26 ∧ i = .int .i64 n ∧ Aside0 ((l.take n).all (fun n => inB n 1 30) = true)) (fun i => 26 - (intOf i).toNat)
  case atStart => exact ⟨0, by omega, rfl, ⟨by simp⟩⟩
  case round =>
    obtain ⟨n, hn, rfl, HA⟩ := hrel
    by_cases hlt : n < 26
    · have hltz : (n : Int) < 26 := by omega
      have hc : w.cell? ⟨g, n, none⟩ = some (.int .i8 (rd l n)) := cellsK_cell HB.out n (by have := HL.out; omega)
      have hbd := hw _ (rd_mem' l n (by have := HL.out; omega))
      have HS := Aside0.mk (all_snoc' (fun n => inB n 1 30) l n (by have := HL.out; omega))
      have HF := Aside0.mk (all_take_false (fun n => inB n 1 30) l n (by have := HL.out; omega))
      obtain ⟨hb1, hb2⟩ := hbd
      generalize rd l n = y at hc hb1 hb2 HS HF
      go_wp2_with fail
      refine (in_calls _ _ _ _).mono ?_
      rintro e w' ⟨rfl, rfl⟩
      cases hy : inB y 1 30
      · have HY := Aside0.mk hy
        clear hy
        go_wp2_with fail
        go_ret
        exact ⟨by unfold strokesB; rw [HF.out HY.out]; rfl, rfl⟩
      · have HY := Aside0.mk hy
        clear hy
        go_wp2_with fail
        go_round
        case rel => exact ⟨n + 1, by omega, by go_num, ⟨by rw [HS.out, HA.out, HY.out]; rfl⟩⟩
        case measure => simp [intOf]; omega
    · have hltz : ¬ (n : Int) < 26 := by omega
      obtain rfl : n = 26 := by omega
      go_wp2
      go_ret
      have e : strokesB l = true := by
        have := HA.out
        rwa [List.take_of_length_le (by have := HL.out; omega)] at this
      exact ⟨by rw [e]; rfl, rfl⟩
theorem reads_of_block {k : IntKind} {g : Nat} {t : TypeId} {l : List Int} {w : World} (hl : l.length ≤ 9223372036854775807) (hb : w.heap[g]? = some (.cells (cellsK k l) t (0, 0))) : Kd.C (Kd.int k) w (some ⟨g, 0, none⟩) l.length l := by
  refine Kd.C_of_reads (enc := Value.int k) (d := (0 : Int)) (h1 := fun _ => rfl) ⟨rfl, hl, fun hp => ⟨_, rfl, fun j hj => ?_⟩⟩
  have := cellsK_cell hb j hj
  rw [add_plain]
  rw [this]
  simp [rd]
theorem pred_ValidStrokes (w : World) : Predi8 50 #[] (fun n => !inB (wrap64 n) 1 30) w := by
  intro W x hb
  go_enter Tryd.func50, Tryd.ntmps50
  go_wp2_with fail
  refine (within_calls _ _ _ _).mono ?_
  rintro e w' ⟨rfl, rfl⟩
  go_wp2_with fail
  go_ret
  exact ⟨rfl, hb⟩
theorem implValidStrokes_calls (l : List Int) (hl : l.length = 26) (hw : ∀ y ∈ l, -128 ≤ y ∧ y ≤ 127) (w : World) :
    Calls Tryd.prog 32 #[.agg (cellsK .i8 l)] w fun e w' => e = .returned (.bool (strokesB l)) ∧ Below w.heap.size w w' := by
  have e1 : strokesB l = !(l.any fun n => !inB (wrap64 n) 1 30) := by
    rw [Bool.eq_iff_iff]
    simp only [strokesB, List.all_eq_true, Bool.not_eq_true', List.any_eq_false, Bool.not_eq_false]
    constructor
    · intro h x hx
      have := hw x hx
      have hz : wrap64 x = x := by unfold wrap64; omega
      rw [hz]; simpa using h x hx
    · intro h x hx
      have := hw x hx
      have hz : wrap64 x = x := by unfold wrap64; omega
      have := h x hx
      rw [hz] at this; simpa using this
  go_enter Tryd.func32, Tryd.ntmps32
  go_wp2_with fail
  have hb := blk_new w (.cells (cellsK .i8 l) 29)
  have hr := reads_of_block (by omega) hb
  refine (containsFunc_i8_n _ _ _ (enters_of Tryd.func50 (by kernel_rfl) rfl) _ 26 26 l hl _ (pred_ValidStrokes _) hr).mono ?_
  rintro e w1 ⟨rfl, hb1⟩
  rw [show (l.any fun n => !inB (wrap64 n) 1 30) = !strokesB l by rw [e1]; simp]
  clear e1 hr
  cases hB : strokesB l
  all_goals
    have HBB := Aside0.mk hB
    clear hB
    go_wp2_with fail
    go_ret
    exact ⟨by rw [HBB.out]; rfl, below_step (below_alloc (Below.refl _ _) _) hb1⟩
def chiselB (h s : Int) : Bool := inB h 30 1000 && inB s 0 100
set_option maxHeartbeats 400000 in
theorem l05Chisel_calls (g : Nat) (a b : Int) (w : World) (hb : w.heap[g]? = some (.cells #[.int .i16 a, .int .i8 b] 31 (0, 0))) (ha : -32768 ≤ a ∧ a ≤ 32767) (hbb : -128 ≤ b ∧ b ≤ 127) :
    Calls Tryd.prog 28 #[.pointer (some ⟨g, 0, none⟩)] w fun e w' => e = .returned (.bool (chiselB a b)) ∧ w = w' := by
  obtain ⟨ha1, ha2⟩ := ha
  obtain ⟨hb1, hb2⟩ := hbb
  have h0 : w.cell? ⟨g, 0, none⟩ = some (.int .i16 a) := (blk_cell hb 0).trans rfl
  have h1 : w.cell? ⟨g, 1, none⟩ = some (.int .i8 b) := (blk_cell hb 1).trans rfl
  clear hb
  unfold chiselB
  cases h : inB a 30 1000
  all_goals
    have H := Aside0.mk h
    clear h
    go_enter Tryd.func28, Tryd.ntmps28
    go_wp2_with fail
    refine (in_calls _ _ _ _).mono ?_
    rintro e w' ⟨rfl, rfl⟩
    rw [H.out]
    go_wp2_with fail
  · go_ret
    exact ⟨rfl, rfl⟩
  · refine (in_calls _ _ _ _).mono ?_
    rintro e w' ⟨rfl, rfl⟩
    go_wp2_with fail
    go_ret
    exact ⟨by simp, rfl⟩
theorem implValidChisel_calls (a b : Int) (w : World) (ha : -32768 ≤ a ∧ a ≤ 32767) (hbb : -128 ≤ b ∧ b ≤ 127) :
    Calls Tryd.prog 36 #[.agg #[.int .i16 a, .int .i8 b]] w fun e w' => e = .returned (.bool (chiselB a b)) ∧ Below w.heap.size w w' := by
  obtain ⟨ha1, ha2⟩ := ha
  obtain ⟨hb1, hb2⟩ := hbb
  unfold chiselB
  cases h : inB a 30 1000
  all_goals
    have H := Aside0.mk h
    clear h
    go_enter Tryd.func36, Tryd.ntmps36
    go_wp2_with fail
    refine (within_calls _ _ _ _).mono ?_
    rintro e w' ⟨rfl, rfl⟩
    rw [H.out]
    go_wp2_with fail
  · go_ret
    exact ⟨rfl, below_alloc (Below.refl _ _) _⟩
  · refine (within_calls _ _ _ _).mono ?_
    rintro e w' ⟨rfl, rfl⟩
    go_wp2_with fail
    go_ret
    exact ⟨by simp, below_alloc (Below.refl _ _) _⟩
structure GlobM (w : World) : Prop where
  m : ∃ m, w.cell? ⟨0, 0, none⟩ = some (.int .i64 m)
theorem cell_below {w w1 : World} (hb : Below w.heap.size w w1) {g : Nat} {v : Value} (hc : w.cell? ⟨g, 0, none⟩ = some v) : w1.cell? ⟨g, 0, none⟩ = some v :=
  (hb.cell (World.block_lt_of_cell? w _ hc)).trans hc
theorem GlobM.below {w w1 : World} (h : GlobM w) (hb : Below w.heap.size w w1) : GlobM w1 := by
  obtain ⟨m, hm⟩ := h.m
  exact ⟨⟨m, cell_below hb hm⟩⟩
end Go.Proofs.YtfnhjoemmiepiaaDoor.Ext
