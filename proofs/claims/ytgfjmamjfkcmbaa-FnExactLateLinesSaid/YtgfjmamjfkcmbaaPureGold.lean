/- Plain laws of the books of gold: what is checked, what is left behind each line, the first line that is short. -/
import Derived.Test.YtgfjmamjfkcmbaaPureKit
import Derived.Test.YtgfjmamjfkcmbaaQ4
import Derived.Test.YtgfjmamjfkcmbaaQ3
import Derived.Test.YtgfjmamjfkcmbaaQ3
import Derived.Test.YtgfjmamjfkcmbaaQ2
import Derived.Test.YtgfjmamjfkcmbaaQ3
import Derived.Test.YtgfjmamjfkcmbaaQ1
import Derived.Test.YtgfjmamjfkcmbaaQ1
import Derived.Test.YtgfjmamjfkcmbaaQ2
namespace Go.Proofs.Ytgfjmamjfkcmbaa.Pure
open Go.RowKit Go.Proofs.Ytgfjmamjfkcmbaa.Ext Go.Proofs.Ytgfjmamjfkcmbaa.Q Go.Proofs.YtgfjmamjfkcmbaaW.PrintWords Go.Proofs.YtgfjmamjfkcmbaaW.PrintLast Go.Proofs.YtgfjmamjfkcmbaaW.PrintMore
set_option linter.unusedVariables false
set_option linter.unusedSimpArgs false

theorem in_eq (a b c : Int) : spec_l00In.f a b c = some (inB a b c) := by
  unfold spec_l00In.f inB
  by_cases h : b ≤ a
  · rw [if_pos h]; simp [h]
  · rw [if_neg h]; simp [h]
theorem within_eq (a b c : Int) : impl_within.f a b c = some (inB a b c) := by
  unfold impl_within.f inB
  by_cases h : b ≤ a
  · rw [if_pos h]; simp [h]
  · rw [if_neg h]; simp [h]

/-- The code of a number at first and of a book. -/
def bookC (s : Int) (l : List Int) : Int := if inB s 0 1000000 && l.all (fun n => inB n (-1000) 1000) then if l.length ≤ 60 then 0 else 3 else 2
theorem book_l0 (l : List Int) (hl : l.length ≤ 1048576) : ∀ (d k n : Nat) (b : Bool), n + d = l.length → d < k →
    spec_l06Book.l0 k l b n = some (if b && (l.drop n).all (fun n => inB n (-1000) 1000) then if l.length ≤ 60 then 0 else 3 else 2)
  | 0, k, n, b, hd, hk => by
    obtain ⟨k, rfl⟩ := some_k hk
    simp only [spec_l06Book.l0]
    rw [if_neg (by omega), List.drop_eq_nil_of_le (by omega)]
    cases b
    · simp
    · simp only [if_true, List.all_nil, Bool.and_true]
      by_cases h : l.length ≤ 60
      · rw [if_neg (by omega), if_pos h]
      · rw [if_pos (by omega), if_neg h]
  | d + 1, k, n, b, hd, hk => by
    obtain ⟨k, rfl⟩ := some_k hk
    simp only [spec_l06Book.l0]
    rw [if_pos (by omega), drop_cons l n (by omega), wrap_succ n (by omega)]
    cases b
    · rw [if_neg (by decide), book_l0 l hl d k (n + 1) false (by omega) (by omega)]
      simp
    · rw [if_pos rfl, if_pos (by omega), in_eq]
      simp only [Option.bind_some]
      rw [book_l0 l hl d k (n + 1) _ (by omega) (by omega)]
      simp [Bool.and_assoc]
theorem spec_book_eq {k : Nat} (s : Int) (l : List Int) (hl : l.length ≤ 1048576) (hk : l.length < k) : spec_l06Book.f k s l = some (bookC s l) := by
  unfold spec_l06Book.f spec_l06Budget.f bookC
  rw [in_eq]
  simp only [Option.bind_some]
  have := book_l0 l hl l.length k 0 (inB s 0 1000000) (by omega) hk
  simpa using this
theorem impl_book_eq (s : Int) (l : List Int) : impl_bookCode.f s l = some (bookC s l) := by
  unfold impl_bookCode.f bookC slices_ContainsFunc_int64_int64_at_impl_bookCode_1.f impl_unless.f
  rw [within_eq]
  simp only [Option.bind_some]
  have e : l.any (outB (-1000) 1000) = !l.all (fun n => inB n (-1000) 1000) := by
    rw [Bool.eq_iff_iff]
    simp [outB]
  rw [e]
  cases inB s 0 1000000 <;> cases l.all (fun n => inB n (-1000) 1000) <;> simp
  by_cases h : l.length ≤ 60
  · rw [if_pos (by omega), if_pos h]
  · rw [if_neg (by omega), if_neg h]

/-- What is there behind each line. -/
def stocksL (s : Int) : List Int → List Int
  | [] => []
  | x :: xs => wrap64 (s + x) :: stocksL (wrap64 (s + x)) xs
theorem stocksL_len (s : Int) (l : List Int) : (stocksL s l).length = l.length := by
  induction l generalizing s with
  | nil => rfl
  | cons x xs ih => simp [stocksL, ih]
theorem stocks_l0 (l : List Int) (hl : l.length ≤ 1048576) : ∀ (d k n : Nat) (s : Int) (out : List Int), n + d = l.length → d < k → out.length ≤ n →
    impl_stocks.l0 k s out l l.length n = some (out ++ stocksL s (l.drop n))
  | 0, k, n, s, out, hd, hk, ho => by
    obtain ⟨k, rfl⟩ := some_k hk
    simp only [impl_stocks.l0]
    rw [if_neg (by omega), List.drop_eq_nil_of_le (by omega)]
    simp [stocksL]
  | d + 1, k, n, s, out, hd, hk, ho => by
    obtain ⟨k, rfl⟩ := some_k hk
    simp only [impl_stocks.l0]
    rw [if_pos (by omega), if_pos (by omega), if_pos (by omega), if_pos (by omega), wrap_succ n (by omega), stocks_l0 l hl d k (n + 1) _ _ (by omega) (by omega) (by simp; omega), drop_cons l n (by omega)]
    simp [stocksL]
theorem stocks_eq {k : Nat} (s : Int) (l : List Int) (hl : l.length ≤ 1048576) (hk : l.length < k) : impl_stocks.f k s l = some (stocksL s l) := by
  unfold impl_stocks.f
  have := stocks_l0 l hl l.length k 0 s [] (by omega) hk (by simp)
  simpa using this
theorem after_l0 (l : List Int) (hl : l.length ≤ 1048576) : ∀ (d k n : Nat) (s : Int) (out : List Int), n + d = l.length → d < k → out.length ≤ n →
    spec_StockAfter.l0 k s l out n = some (out ++ stocksL s (l.drop n), 0)
  | 0, k, n, s, out, hd, hk, ho => by
    obtain ⟨k, rfl⟩ := some_k hk
    simp only [spec_StockAfter.l0]
    rw [if_neg (by omega), List.drop_eq_nil_of_le (by omega)]
    simp [stocksL]
  | d + 1, k, n, s, out, hd, hk, ho => by
    obtain ⟨k, rfl⟩ := some_k hk
    simp only [spec_StockAfter.l0]
    rw [if_pos (by omega), if_pos (by omega), if_pos (by omega), wrap_succ n (by omega), after_l0 l hl d k (n + 1) _ _ (by omega) (by omega) (by simp; omega), drop_cons l n (by omega)]
    simp [stocksL]

/-- The first line behind which there are too few, -1 if there is none. -/
def shortI (s : Int) (l : List Int) : Int := idxI (fun n => decide (n < 0)) (stocksL s l)
theorem shortI_cons (s x : Int) (l : List Int) : shortI s (x :: l) = if wrap64 (s + x) < 0 then 0 else if shortI (wrap64 (s + x)) l < 0 then -1 else shortI (wrap64 (s + x)) l + 1 := by
  show idxI _ (wrap64 (s + x) :: stocksL (wrap64 (s + x)) l) = _
  simp only [idxI, decide_eq_true_eq]
  rfl
theorem short_l0 (l : List Int) (hl : l.length ≤ 1048576) : ∀ (d k n : Nat) (s : Int), n + d = l.length → d < k →
    spec_l06Short.l0 k s l n = some (if shortI s (l.drop n) < 0 then -1 else n + shortI s (l.drop n))
  | 0, k, n, s, hd, hk => by
    obtain ⟨k, rfl⟩ := some_k hk
    simp only [spec_l06Short.l0]
    rw [if_neg (by omega), List.drop_eq_nil_of_le (by omega)]
    rfl
  | d + 1, k, n, s, hd, hk => by
    obtain ⟨k, rfl⟩ := some_k hk
    simp only [spec_l06Short.l0]
    rw [if_pos (by omega), if_pos (by omega), wrap_succ n (by omega), drop_cons l n (by omega)]
    by_cases h : wrap64 (s + rd l n) < 0
    · have e : shortI s (rd l n :: l.drop (n + 1)) = 0 := by rw [shortI_cons, if_pos h]
      rw [if_pos h, e]
      simp
    · rw [if_neg h, short_l0 l hl d k (n + 1) _ (by omega) (by omega)]
      have lo := (idxI_lo (fun n => decide (n < 0)) (stocksL (wrap64 (s + rd l n)) (l.drop (n + 1)))).1
      by_cases h3 : shortI (wrap64 (s + rd l n)) (l.drop (n + 1)) < 0
      · have e : shortI s (rd l n :: l.drop (n + 1)) = -1 := by rw [shortI_cons, if_neg h, if_pos h3]
        rw [if_pos h3, e]
        rfl
      · have e : shortI s (rd l n :: l.drop (n + 1)) = shortI (wrap64 (s + rd l n)) (l.drop (n + 1)) + 1 := by rw [shortI_cons, if_neg h, if_neg h3]
        rw [if_neg h3, e, if_neg (by omega)]
        congr 1
        omega
theorem short_eq {k : Nat} (s : Int) (l : List Int) (hl : l.length ≤ 1048576) (hk : l.length < k) : spec_l06Short.f k s l = some (shortI s l) := by
  unfold spec_l06Short.f
  have := short_l0 l hl l.length k 0 s (by omega) hk
  simp only [List.drop_zero, Int.zero_add, show ((0 : Nat) : Int) = 0 from rfl] at this
  rw [this]
  congr 1
  have := idxI_lo (fun n => decide (n < 0)) (stocksL s l)
  unfold shortI at *
  split <;> omega
def firstC (s : Int) (l : List Int) : Int × Int := if bookC s l = 0 then if shortI s l < 0 then (0, 6) else (shortI s l, 0) else (0, bookC s l)
theorem spec_first_eq {k : Nat} (s : Int) (l : List Int) (hl : l.length ≤ 1048576) (hk : l.length < k) : spec_FirstShort.f k s l = some (firstC s l) := by
  unfold spec_FirstShort.f firstC
  rw [spec_book_eq s l hl hk, short_eq s l hl hk]
  simp only [Option.bind_some]
  by_cases h : bookC s l = 0
  · rw [if_pos h, if_pos h]; split <;> rfl
  · rw [if_neg h, if_neg h]
theorem impl_first_eq {k : Nat} (s : Int) (l : List Int) (hl : l.length ≤ 1048576) (hk : l.length < k) : impl_FirstShort.f k s l = some (firstC s l) := by
  unfold impl_FirstShort.f firstC slices_IndexFunc_int64_int64_at_impl_FirstShort_1.f
  rw [impl_book_eq s l, stocks_eq s l hl hk]
  simp only [Option.bind_some]
  by_cases h : bookC s l = 0
  · rw [if_pos h, if_pos h]; unfold shortI; split <;> rfl
  · rw [if_neg h, if_neg h]

theorem FnExactFirstShort : laws_FnExactFirstShort.Pure := by
  intro a l _ _ _ _
  refine ⟨l.length + 5, ?_⟩
  unfold laws_FnExactFirstShort.f
  by_cases h : (l.length : Int) > 1048576
  · rw [if_pos h]
  · rw [if_neg h, toInt64S_eq (by omega) (by omega)]
    simp only [Option.bind_some]
    rw [spec_first_eq a l (by omega) (by omega), impl_first_eq a l (by omega) (by omega)]
    simp only [Option.bind_some, if_true, bne_self_eq_false, laws_FnExactFirstShort.j0]
    rw [if_neg (by decide), toInt64S_eq (by omega) (by omega)]
    simp only [Option.bind_some]
    rw [eqInt64S_self (by omega) (by omega)]
    simp

def afterC (s : Int) (l : List Int) : List Int × Int := if bookC s l = 0 then if shortI s l < 0 then (stocksL s l, 0) else ([], 4) else ([], bookC s l)
theorem spec_after_eq {k : Nat} (s : Int) (l : List Int) (hl : l.length ≤ 1048576) (hk : l.length + 2 < k) : spec_StockAfter.f k s l = some (afterC s l) := by
  unfold spec_StockAfter.f afterC
  rw [spec_book_eq s l hl (by omega), short_eq s l hl (by omega)]
  simp only [Option.bind_some]
  obtain ⟨k, rfl⟩ : ∃ m, k = m + 2 := ⟨k - 2, by omega⟩
  by_cases h : bookC s l = 0
  · rw [if_pos h, if_pos h]
    by_cases h2 : shortI s l < 0
    · rw [if_pos h2]
      simp only [spec_StockAfter.j0, spec_StockAfter.j1]
      rw [if_neg (by simp; omega), if_pos h]
      have := after_l0 l hl l.length k 0 s [] (by omega) (by omega) (by simp)
      simpa using this
    · rw [if_neg h2]
      simp only [spec_StockAfter.j0, spec_StockAfter.j1]
      rw [if_pos (by simp; omega), if_neg (by decide)]
  · rw [if_neg h, if_neg h]
    simp only [spec_StockAfter.j0, spec_StockAfter.j1]
    rw [if_neg (by decide), if_neg h]
theorem book_cases (s : Int) (l : List Int) : bookC s l = 0 ∨ bookC s l = 2 ∨ bookC s l = 3 := by
  unfold bookC; split <;> (try split) <;> simp
theorem impl_after_eq {k : Nat} (s : Int) (l : List Int) (hl : l.length ≤ 1048576) (hk : l.length < k) : impl_StockAfter.f k s l = some (afterC s l) := by
  unfold impl_StockAfter.f afterC
  rw [impl_first_eq s l hl hk, stocks_eq s l hl hk]
  simp only [Option.bind_some, firstC]
  rcases book_cases s l with h | h | h
  · rw [if_pos h, if_pos h]
    by_cases h2 : shortI s l < 0
    · simp [h2]
    · simp [h2]
  · simp [h]
  · simp [h]
theorem afterC_len (s : Int) (l : List Int) : (afterC s l).1.length ≤ l.length := by
  unfold afterC
  split
  · split
    · simp [stocksL_len]
    · simp
  · simp
theorem FnExactStockAfter : laws_FnExactStockAfter.Pure := by
  intro a l _ _ _ _
  refine ⟨l.length + 9, ?_⟩
  unfold laws_FnExactStockAfter.f
  by_cases h : (l.length : Int) > 1048576
  · rw [if_pos h]
  · have hl := afterC_len a l
    rw [if_neg h, toInt64S_eq (by omega) (by omega)]
    simp only [Option.bind_some]
    rw [spec_after_eq a l (by omega) (by omega), impl_after_eq a l (by omega) (by omega)]
    simp only [Option.bind_some]
    rw [eqInt64S_self (by omega) (by omega)]
    simp only [Option.bind_some, if_true, bne_self_eq_false, laws_FnExactStockAfter.j0]
    rw [if_neg (by decide), toInt64S_eq (by omega) (by omega)]
    simp only [Option.bind_some]
    rw [eqInt64S_self (by omega) (by omega)]
    simp only [Option.bind_some, if_true]
    rw [markInt64S_eq (by omega) (by omega) (by omega) (by omega)]
    simp only [Option.bind_some]
    rw [if_neg (by omega), eqInt64S_self (by omega) (by omega)]
    simp only [Option.bind_some, if_true, laws_FnExactStockAfter.j1]
    rw [if_neg (by decide), markInt64S_eq (by omega) (by omega) (by omega) (by omega)]
    simp only [Option.bind_some]
    rw [heldInt64S_eq (by omega) (by omega) (by omega) (by omega)]
    simp only [Option.bind_some]
    rw [if_neg (by omega)]
    simp only [if_true]
    rw [toInt64S_eq (by omega) (by omega)]
    simp only [Option.bind_some]
    rw [impl_after_eq a l (by omega) (by omega)]
    simp only [Option.bind_some]
    rw [eqInt64S_self (by omega) (by omega)]
    simp only [Option.bind_some, if_true, bne_self_eq_false, laws_FnExactStockAfter.j2]
    rw [if_neg (by decide), heldInt64S_eq (by omega) (by omega) (by omega) (by omega)]
    simp only [Option.bind_some]
    rw [if_neg (by omega)]
    simp only [if_true]

/-- The least number at first. -/
theorem rd_all {p : Int → Bool} {l : List Int} (h : l.all p = true) (n : Nat) (hn : n < l.length) : p (rd l n) = true := List.all_eq_true.1 h _ (rd_mem l n hn)
/-- All that is left, from s on, the greatest shortage so far being m. -/
def leastL (m s : Int) : List Int → Int
  | [] => m
  | x :: xs => leastL (if m > -(s + x) then m else -(s + x)) (s + x) xs
theorem least_l0 (l : List Int) (hl : l.length ≤ 60) (hb : l.all (fun n => inB n (-1000) 1000) = true) : ∀ (d k n : Nat) (s m : Int), n + d = l.length → d < k → -(1000 * n) ≤ s → s ≤ 1000 * n →
    spec_LeastStart.l0 k l s m n = some (leastL m s (l.drop n), 0)
  | 0, k, n, s, m, hd, hk, h0, h1 => by
    obtain ⟨k, rfl⟩ := some_k hk
    simp only [spec_LeastStart.l0]
    rw [if_neg (by omega), List.drop_eq_nil_of_le (by omega)]
    rfl
  | d + 1, k, n, s, m, hd, hk, h0, h1 => by
    obtain ⟨k, rfl⟩ := some_k hk
    have hx := inB_iff.1 (rd_all hb n (by omega))
    simp only [spec_LeastStart.l0]
    rw [if_pos (by omega), if_pos (by omega), wrap_succ n (by omega), drop_cons l n (by omega), w64 (x := s + rd l n) (by omega) (by omega), w64 (by omega) (by omega)]
    unfold spec_l00Max.f
    have ih := fun m => least_l0 l hl hb d k (n + 1) (s + rd l n) m (by omega) (by omega) (by omega) (by omega)
    by_cases h : m > -(s + rd l n)
    · rw [if_pos h]; simp only [Option.bind_some, leastL]; rw [ih, if_pos h]
    · rw [if_neg h]; simp only [Option.bind_some, leastL]; rw [ih, if_neg h]
theorem fold_snoc (a x : Int) (l : List Int) : (l ++ [x]).foldl mn a = mn (l.foldl mn a) x := by rw [List.foldl_append]; rfl
theorem foldMin_snoc0 (l : List Int) : foldMin (l ++ [0]) = l.foldl mn 0 := by
  have comm : ∀ (l : List Int) (a b : Int), l.foldl mn (mn a b) = mn a (l.foldl mn b) := by
    intro l
    induction l with
    | nil => intro a b; rfl
    | cons x xs ih =>
      intro a b
      simp only [List.foldl_cons]
      rw [← ih]
      congr 1
      unfold mn; (repeat' split) <;> omega
  unfold foldMin
  cases l with
  | nil => rfl
  | cons x xs =>
    simp only [List.cons_append, List.tail_cons, List.headD_cons, List.foldl_cons]
    rw [fold_snoc, comm]
    unfold mn; (repeat' split) <;> omega
theorem least_fold (l : List Int) (hb : l.all (fun n => inB n (-1000) 1000) = true) : ∀ (s m : Int), -(100000 : Int) ≤ s - 1000 * l.length → s + 1000 * l.length ≤ 100000 → leastL (-m) s l = -((stocksL s l).foldl mn m) := by
  induction l with
  | nil => intro s m _ _; rfl
  | cons x xs ih =>
    intro s m h0 h1
    rw [List.all_cons, Bool.and_eq_true] at hb
    have hx := inB_iff.1 hb.1
    simp only [List.length_cons] at h0 h1
    simp only [stocksL, leastL, List.foldl_cons]
    rw [w64 (by omega) (by omega)]
    rw [show (if -m > -(s + x) then -m else -(s + x)) = -(mn m (s + x)) by unfold mn; (repeat' split) <;> omega]
    exact ih hb.2 _ _ (by omega) (by omega)
theorem stocks_fold_bd (l : List Int) (hb : l.all (fun n => inB n (-1000) 1000) = true) : ∀ (s m : Int), -(100000 : Int) ≤ s - 1000 * l.length → s + 1000 * l.length ≤ 100000 → -(100000 : Int) ≤ m → m ≤ 0 → -(100000 : Int) ≤ (stocksL s l).foldl mn m ∧ (stocksL s l).foldl mn m ≤ 0 := by
  induction l with
  | nil => intro s m _ _ h2 h3; exact ⟨h2, h3⟩
  | cons x xs ih =>
    intro s m h0 h1 h2 h3
    rw [List.all_cons, Bool.and_eq_true] at hb
    have hx := inB_iff.1 hb.1
    simp only [List.length_cons] at h0 h1
    simp only [stocksL, List.foldl_cons]
    rw [w64 (by omega) (by omega)]
    exact ih hb.2 _ _ (by omega) (by omega) (by unfold mn; split <;> omega) (by unfold mn; split <;> omega)
theorem bookC_zero {s : Int} {l : List Int} (h : bookC s l = 0) : l.length ≤ 60 ∧ l.all (fun n => inB n (-1000) 1000) = true := by
  unfold bookC at h
  split at h
  · rename_i h2
    split at h
    · rename_i h3
      exact ⟨h3, (Bool.and_eq_true _ _ ▸ h2).2⟩
    · omega
  · omega
def leastC (l : List Int) : Int × Int := if bookC 0 l = 0 then (leastL 0 0 l, 0) else (0, bookC 0 l)
theorem spec_least_eq {k : Nat} (l : List Int) (hl : l.length ≤ 1048576) (hk : l.length < k) : spec_LeastStart.f k l = some (leastC l) := by
  unfold spec_LeastStart.f leastC
  rw [spec_book_eq 0 l hl hk]
  simp only [Option.bind_some]
  by_cases h : bookC 0 l = 0
  · rw [if_pos h, if_pos h]
    obtain ⟨h1, h2⟩ := bookC_zero h
    have := least_l0 l h1 h2 l.length k 0 0 0 (by omega) hk (by omega) (by omega)
    simpa using this
  · rw [if_neg h, if_neg h]
theorem impl_least_eq {k : Nat} (l : List Int) (hl : l.length ≤ 1048576) (hk : l.length < k) : impl_LeastStart.f k l = some (leastC l) := by
  unfold impl_LeastStart.f leastC
  rw [impl_book_eq 0 l, stocks_eq 0 l hl hk]
  simp only [Option.bind_some]
  by_cases h : bookC 0 l = 0
  · rw [if_pos h, if_pos h]
    obtain ⟨h1, h2⟩ := bookC_zero h
    rw [if_pos (by rw [stocksL_len]; omega)]
    unfold slices_Min_int64_int64.f
    rw [if_pos (by simp), foldMin_snoc0]
    simp only [Option.bind_some]
    have := stocks_fold_bd l h2 0 0 (by omega) (by omega) (by omega) (by omega)
    rw [w64 (by omega) (by omega)]
    have e := least_fold l h2 0 0 (by omega) (by omega)
    rw [← e]
    rfl
  · rw [if_neg h, if_neg h]
theorem FnExactLeastStart : laws_FnExactLeastStart.Pure := by
  intro l _ _ _
  refine ⟨l.length + 5, ?_⟩
  unfold laws_FnExactLeastStart.f
  by_cases h : (l.length : Int) > 1048576
  · rw [if_pos h]
  · rw [if_neg h, toInt64S_eq (by omega) (by omega)]
    simp only [Option.bind_some]
    rw [spec_least_eq l (by omega) (by omega), impl_least_eq l (by omega) (by omega)]
    simp only [Option.bind_some, if_true, bne_self_eq_false, laws_FnExactLeastStart.j0]
    rw [if_neg (by decide), toInt64S_eq (by omega) (by omega)]
    simp only [Option.bind_some]
    rw [eqInt64S_self (by omega) (by omega)]
    simp
end Go.Proofs.Ytgfjmamjfkcmbaa.Pure
