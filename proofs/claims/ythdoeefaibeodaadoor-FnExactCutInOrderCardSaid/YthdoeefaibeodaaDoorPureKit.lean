/- Plain laws of the printed helpers of the laws (copies, comparisons, marks), over lists alone. -/
import Derived.Test.YthdoeefaibeodaaDoorQ6
import Derived.Test.YthdoeefaibeodaaDoorQ5
import Derived.Test.YthdoeefaibeodaaDoorQ11
namespace Go.Proofs.YthdoeefaibeodaaDoor.Pure
open Go.RowKit Go.Proofs.YthdoeefaibeodaaDoor.Ext Go.Proofs.YthdoeefaibeodaaDoor.Q Go.Proofs.YthdoeefaibeodaaDoorW.PrintWords Go.Proofs.YthdoeefaibeodaaDoorW.PrintLast Go.Proofs.YthdoeefaibeodaaDoorW.PrintMore
set_option linter.unusedVariables false
set_option linter.unusedSimpArgs false

theorem w64 {x : Int} (h0 : -9223372036854775808 ≤ x) (h1 : x ≤ 9223372036854775807) : wrap64 x = x := by unfold wrap64; omega
theorem wrap_succ (n : Nat) (h : n ≤ 4611686018427387904) : wrap64 ((n : Int) + 1) = ((n + 1 : Nat) : Int) := by unfold wrap64; omega
theorem drop_cons (l : List Int) (n : Nat) (h : n < l.length) : l.drop n = rd l n :: l.drop (n + 1) := by
  rw [List.drop_eq_getElem_cons h]
  congr 1
  simp [rd, List.getD_eq_getElem?_getD, List.getElem?_eq_getElem h]
theorem rd_get (l : List Int) (n : Nat) (h : n < l.length) : rd l n = l[n] := by
  simp [rd, List.getD_eq_getElem?_getD, List.getElem?_eq_getElem h]
theorem rd_mem (l : List Int) (n : Nat) (h : n < l.length) : rd l n ∈ l := by
  rw [rd_get l n h]; exact List.getElem_mem h
theorem some_k {k d : Nat} (h : d < k) : ∃ m, k = m + 1 := ⟨k - 1, by omega⟩

theorem take_set_succ (x : List Int) (n : Nat) (v : Int) (h : n < x.length) : (x.set n v).take (n + 1) = x.take n ++ [v] := by
  rw [List.take_succ_eq_append_getElem (by simpa using h), List.take_set, List.set_eq_of_length_le (by simp; omega)]
  simp
theorem toInt64S_l0 (l : List Int) (hl : l.length ≤ 4611686018427387904) : ∀ (d k n : Nat) (x : List Int), n + d = l.length → d < k → x.length = l.length → x.take n = l.take n →
    laws_toInt64S.l0 k l x n = some l
  | 0, k, n, x, hd, hk, hx, ht => by
    obtain ⟨k, rfl⟩ := some_k hk
    simp only [laws_toInt64S.l0]
    rw [if_neg (by omega)]
    obtain rfl : n = l.length := by omega
    rw [List.take_length, ← hx, List.take_length] at ht
    rw [ht]
  | d + 1, k, n, x, hd, hk, hx, ht => by
    obtain ⟨k, rfl⟩ := some_k hk
    simp only [laws_toInt64S.l0]
    rw [if_pos (by omega), if_pos (by omega), if_pos (by omega), wrap_succ n (by omega)]
    refine toInt64S_l0 l hl d k (n + 1) _ (by omega) (by omega) (by simpa using hx) ?_
    rw [Int.toNat_natCast, take_set_succ x n _ (by omega), List.take_succ_eq_append_getElem (by omega : n < l.length), rd_get l n (by omega), ht]
theorem toInt64S_eq {k : Nat} {l : List Int} (hk : l.length < k) (hl : l.length ≤ 35184372088832) : laws_toInt64S.f k l = some l := by
  unfold laws_toInt64S.f
  rw [if_pos (by omega), if_pos (by omega)]
  exact toInt64S_l0 l (by omega) l.length k 0 _ (by omega) hk (by simp) (by simp)

theorem eqInt64S_l0 (x y : List Int) (hy : x.length = y.length) (hl : x.length ≤ 4611686018427387904) : ∀ (d k n : Nat), n + d = x.length → d < k →
    laws_eqInt64S.l0 k x y n = some (decide (x.drop n = y.drop n))
  | 0, k, n, hd, hk => by
    obtain ⟨k, rfl⟩ := some_k hk
    simp only [laws_eqInt64S.l0]
    rw [if_neg (by omega), List.drop_eq_nil_of_le (by omega), List.drop_eq_nil_of_le (by omega)]
    rfl
  | d + 1, k, n, hd, hk => by
    obtain ⟨k, rfl⟩ := some_k hk
    simp only [laws_eqInt64S.l0]
    rw [if_pos (by omega), if_pos (by omega), if_pos (by omega), wrap_succ n (by omega), eqInt64S_l0 x y hy hl d k (n + 1) (by omega) (by omega), drop_cons x n (by omega), drop_cons y n (by omega)]
    by_cases h : rd x n = rd y n
    · rw [if_pos h]; congr 1; rw [Bool.eq_iff_iff]; simp [h]
    · rw [if_neg h]; congr 1; symm; simp [h]
theorem eqInt64S_eq {k : Nat} {x y : List Int} (hk : x.length < k) (hl : x.length ≤ 4611686018427387904) : laws_eqInt64S.f k x y = some (decide (x = y)) := by
  unfold laws_eqInt64S.f
  by_cases h : x.length = y.length
  · rw [if_pos (by omega)]
    have := eqInt64S_l0 x y h hl x.length k 0 (by omega) hk
    simpa using this
  · rw [if_neg (by omega)]
    congr 1; symm; simp
    intro e; exact h (by rw [e])
theorem eqInt64S_self {k : Nat} {x : List Int} (hk : x.length < k) (hl : x.length ≤ 4611686018427387904) : laws_eqInt64S.f k x x = some true := by
  rw [eqInt64S_eq hk hl]; simp

/-- what a mark leaves: the numbers from c on. -/
def marks (c : Int) : Nat → List Int
  | 0 => []
  | n + 1 => c :: marks (c + 1) n
theorem marks_len (c : Int) (n : Nat) : (marks c n).length = n := by
  induction n generalizing c with
  | zero => rfl
  | succ n ih => simp [marks, ih]
theorem marks_rd (c : Int) (n j : Nat) (h : j < n) : rd (marks c n) j = c + j := by
  induction n generalizing c j with
  | zero => omega
  | succ n ih =>
    cases j with
    | zero => simp [marks, rd]
    | succ j =>
      have := ih (c + 1) j (by omega)
      simp [marks, rd] at this ⊢
      rw [this]; omega
theorem marks_snoc (c : Int) (n : Nat) : marks c (n + 1) = marks c n ++ [c + n] := by
  induction n generalizing c with
  | zero => simp [marks]
  | succ n ih => rw [marks, ih (c + 1)]; simp [marks]; omega
theorem markInt64S_l0 (c : Int) (h0 : 0 ≤ c) (hc : c ≤ 4611686018427387904) : ∀ (d k n : Nat) (x : List Int), n + d = x.length → x.length ≤ 2305843009213693952 → d < k → x.take n = marks c n →
    laws_markInt64S.l0 k x (c + n) n = some (c + x.length, marks c x.length)
  | 0, k, n, x, hd, hx, hk, ht => by
    obtain ⟨k, rfl⟩ := some_k hk
    simp only [laws_markInt64S.l0]
    rw [if_neg (by omega)]
    obtain rfl : n = x.length := by omega
    rw [List.take_length] at ht
    rw [← ht]
  | d + 1, k, n, x, hd, hx, hk, ht => by
    obtain ⟨k, rfl⟩ := some_k hk
    simp only [laws_markInt64S.l0]
    rw [if_pos (by omega), if_pos (by omega), wrap_succ n (by omega), w64 (by omega) (by omega)]
    have := markInt64S_l0 c h0 hc d k (n + 1) (x.set (n : Int).toNat (c + n)) (by simp; omega) (by simpa using hx) (by omega) (by
      rw [Int.toNat_natCast, take_set_succ x n _ (by omega), marks_snoc, ht])
    rw [show c + (n : Int) + 1 = c + ((n + 1 : Nat) : Int) by omega, this]
    simp
theorem markInt64S_eq {k : Nat} {x : List Int} {c : Int} (hk : x.length < k) (hx : x.length ≤ 2305843009213693952) (h0 : 0 ≤ c) (hc : c ≤ 4611686018427387904) : laws_markInt64S.f k x c = some (c + x.length, marks c x.length) := by
  unfold laws_markInt64S.f
  have := markInt64S_l0 c h0 hc x.length k 0 x (by omega) hx hk (by simp [marks])
  simpa using this
theorem heldInt64S_l0 (c : Int) (m : Nat) (h0 : 0 ≤ c) (hc : c ≤ 4611686018427387904) (hm : m ≤ 2305843009213693952) : ∀ (d k n : Nat), n + d = m → d < k →
    laws_heldInt64S.l0 k (marks c m) (c + n) n = some (c + m)
  | 0, k, n, hd, hk => by
    obtain ⟨k, rfl⟩ := some_k hk
    simp only [laws_heldInt64S.l0]
    rw [if_neg (by rw [marks_len]; omega)]
    obtain rfl : n = m := by omega
    rfl
  | d + 1, k, n, hd, hk => by
    obtain ⟨k, rfl⟩ := some_k hk
    simp only [laws_heldInt64S.l0]
    rw [if_pos (by rw [marks_len]; omega), if_pos (by omega), marks_rd c m n (by omega), if_pos rfl, wrap_succ n (by omega), w64 (by omega) (by omega)]
    rw [show c + (n : Int) + 1 = c + ((n + 1 : Nat) : Int) by omega]
    exact heldInt64S_l0 c m h0 hc hm d k (n + 1) (by omega) (by omega)
theorem heldInt64S_eq {k m : Nat} {c : Int} (hk : m < k) (hm : m ≤ 2305843009213693952) (h0 : 0 ≤ c) (hc : c ≤ 4611686018427387904) : laws_heldInt64S.f k (marks c m) c = some (c + m) := by
  unfold laws_heldInt64S.f
  have := heldInt64S_l0 c m h0 hc hm m k 0 (by omega) hk
  simpa using this
end Go.Proofs.YthdoeefaibeodaaDoor.Pure
