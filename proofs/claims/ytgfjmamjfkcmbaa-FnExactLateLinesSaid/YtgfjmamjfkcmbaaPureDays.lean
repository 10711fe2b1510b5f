/- Plain laws of times: their code, sharing in order, days, late lines. -/
import Derived.Test.YtgfjmamjfkcmbaaPureGold
import Derived.Test.YtgfjmamjfkcmbaaExtB
import Derived.Test.YtgfjmamjfkcmbaaQ7
import Derived.Test.YtgfjmamjfkcmbaaQ6
import Derived.Test.YtgfjmamjfkcmbaaQ6
import Derived.Test.YtgfjmamjfkcmbaaQ7
import Derived.Test.YtgfjmamjfkcmbaaQ5
import Derived.Test.YtgfjmamjfkcmbaaQ8
import Derived.Test.YtgfjmamjfkcmbaaQ6
namespace Go.Proofs.Ytgfjmamjfkcmbaa.Pure
open Go.RowKit Go.Proofs.Ytgfjmamjfkcmbaa.Ext Go.Proofs.Ytgfjmamjfkcmbaa.Q Go.Proofs.YtgfjmamjfkcmbaaW.PrintWords Go.Proofs.YtgfjmamjfkcmbaaW.PrintLast Go.Proofs.YtgfjmamjfkcmbaaW.PrintMore
set_option linter.unusedVariables false
set_option linter.unusedSimpArgs false

/-- Times are as told. -/
def timesB (l : List Int) : Bool := l.all fun n => inB n 1 100000
def timesC (b : Bool) (l : List Int) (most : Int) : Int := if b && timesB l then if (l.length : Int) ≤ most then 0 else 3 else 2
theorem any_out (l : List Int) (a b : Int) : l.any (outB a b) = !l.all (fun n => inB n a b) := by
  rw [Bool.eq_iff_iff]
  simp [outB]
theorem impl_times_eq (l : List Int) (n most lines : Int) : impl_timesCode.f l n most lines = some (timesC (inB n 1 most) l lines) := by
  unfold impl_timesCode.f timesC slices_ContainsFunc_int64_int64_at_impl_timesCode_1.f impl_unless.f timesB
  rw [within_eq, any_out]
  simp only [Option.bind_some]
  cases inB n 1 most <;> cases l.all (fun n => inB n 1 100000) <;> simp
  by_cases h : (l.length : Int) ≤ lines
  · simp [h]
  · simp [h]
theorem minutes_eq (n : Int) : spec_l05Minutes.f n = some (inB n 1 100000) := by
  unfold spec_l05Minutes.f
  rw [in_eq]; rfl
theorem times_l0 (l : List Int) (m : Int) (hm : m ≤ 12) (hl : l.length ≤ 1048576) : ∀ (d k n : Nat) (b : Bool), n + d = l.length → d < k →
    spec_l05Times.l0 k l b m n = some (if b && (l.drop n).all (fun n => inB n 1 100000) then if (l.length : Int) ≤ m then 0 else 3 else 2)
  | 0, k, n, b, hd, hk => by
    obtain ⟨k, rfl⟩ := some_k hk
    simp only [spec_l05Times.l0]
    rw [if_neg (by omega), List.drop_eq_nil_of_le (by omega)]
    cases b
    · simp
    · simp only [if_true, List.all_nil, Bool.and_true]
      by_cases h : (l.length : Int) ≤ m
      · rw [if_neg (by omega), if_neg (by omega), if_pos h]
      · rw [if_neg h]
        by_cases h2 : (l.length : Int) > 12
        · rw [if_pos h2]
        · rw [if_neg h2, if_pos (by omega)]
  | d + 1, k, n, b, hd, hk => by
    obtain ⟨k, rfl⟩ := some_k hk
    simp only [spec_l05Times.l0]
    rw [if_pos (by omega), drop_cons l n (by omega), wrap_succ n (by omega)]
    cases b
    · rw [if_neg (by decide), times_l0 l m hm hl d k (n + 1) false (by omega) (by omega)]
      simp
    · rw [if_pos rfl, if_pos (by omega), minutes_eq]
      simp only [Option.bind_some]
      rw [times_l0 l m hm hl d k (n + 1) _ (by omega) (by omega)]
      simp
theorem spec_times_eq {k : Nat} (l : List Int) (b : Bool) (m : Int) (hm : m ≤ 12) (hl : l.length ≤ 1048576) (hk : l.length < k) : spec_l05Times.f k l b m = some (timesC b l m) := by
  unfold spec_l05Times.f timesC timesB
  have := times_l0 l m hm hl l.length k 0 b (by omega) hk
  simpa using this
theorem timesC_zero {b : Bool} {l : List Int} {m : Int} (h : timesC b l m = 0) : b = true ∧ timesB l = true ∧ (l.length : Int) ≤ m := by
  unfold timesC at h
  split at h
  · rename_i h2
    rw [Bool.and_eq_true] at h2
    split at h
    · exact ⟨h2.1, h2.2, by assumption⟩
    · omega
  · omega
theorem times_rd {l : List Int} (h : timesB l = true) (n : Nat) (hn : n < l.length) : 1 ≤ rd l n ∧ rd l n ≤ 100000 := inB_iff.1 (rd_all h n hn)

/-- Each line goes to the cutter of the line before as long as all are together at most m. -/
def greedyI (m c s : Int) : List Int → List Int
  | [] => []
  | t :: ts => if m < s + t then (c + 1) :: greedyI m (c + 1) t ts else c :: greedyI m c (s + t) ts
/-- The last cutter. -/
def lastI (m c s : Int) : List Int → Int
  | [] => c
  | t :: ts => if m < s + t then lastI m (c + 1) t ts else lastI m c (s + t) ts
theorem greedyI_len (m c s : Int) (l : List Int) : (greedyI m c s l).length = l.length := by
  induction l generalizing c s with
  | nil => rfl
  | cons t ts ih => simp only [greedyI]; split <;> simp [ih]
theorem greedyI_last (m c s : Int) (l : List Int) (h : 0 < l.length) : rd (greedyI m c s l) ((l.length - 1 : Nat) : Int) = lastI m c s l := by
  induction l generalizing c s with
  | nil => simp at h
  | cons t ts ih =>
    cases ts with
    | nil => simp only [greedyI, lastI, List.length_cons, List.length_nil, rd]; split <;> simp
    | cons u us =>
      have e : ((t :: u :: us).length - 1 : Nat) = (u :: us).length - 1 + 1 := by simp
      rw [e]
      have step : ∀ (x : Int) (xs : List Int) (n : Nat), rd (x :: xs) ((n + 1 : Nat) : Int) = rd xs n := by intro x xs n; simp [rd]
      rw [greedyI, lastI]
      by_cases h : m < s + t
      · rw [if_pos h, if_pos h, step]; exact ih _ _ (by simp)
      · rw [if_neg h, if_neg h, step]; exact ih _ _ (by simp)
theorem order_l0 (l : List Int) (m : Int) (hb : timesB l = true) (hl : l.length ≤ 12) : ∀ (d k n : Nat) (c s : Int) (out : List Int), n + d = l.length → d < k → out.length ≤ n → 0 ≤ c → c ≤ n → 0 ≤ s → s ≤ 100000 * n →
    impl_inOrder.l0 k m out c s l l.length n = some (out ++ greedyI m c s (l.drop n))
  | 0, k, n, c, s, out, hd, hk, ho, h1, h2, h3, h4 => by
    obtain ⟨k, rfl⟩ := some_k hk
    simp only [impl_inOrder.l0]
    rw [if_neg (by omega), List.drop_eq_nil_of_le (by omega)]
    simp [greedyI]
  | d + 1, k, n, c, s, out, hd, hk, ho, h1, h2, h3, h4 => by
    obtain ⟨k, rfl⟩ := some_k hk
    have ht := times_rd hb n (by omega)
    simp only [impl_inOrder.l0]
    rw [if_pos (by omega), if_pos (by omega), if_pos (by omega), wrap_succ n (by omega), w64 (x := s + rd l n) (by omega) (by omega), w64 (x := c + 1) (by omega) (by omega), w64 (x := 0 + rd l n) (by omega) (by omega), drop_cons l n (by omega), greedyI]
    by_cases h : m < s + rd l n
    · rw [if_pos h, if_pos (by omega), if_pos h, order_l0 l m hb hl d k (n + 1) _ _ _ (by omega) (by omega) (by simp; omega) (by omega) (by omega) (by omega) (by omega)]
      simp
    · rw [if_neg h, if_pos (by omega), if_neg h, order_l0 l m hb hl d k (n + 1) _ _ _ (by omega) (by omega) (by simp; omega) (by omega) (by omega) (by omega) (by omega)]
      simp
theorem order_eq {k : Nat} (l : List Int) (m : Int) (hb : timesB l = true) (hl : l.length ≤ 12) (hk : l.length < k) : impl_inOrder.f k l m = some (greedyI m 0 0 l) := by
  unfold impl_inOrder.f
  have := order_l0 l m hb hl l.length k 0 0 0 [] (by omega) hk (by simp) (by omega) (by omega) (by omega) (by omega)
  simpa using this

/-- What the days of lines are. -/
def daysC (l : List Int) (day : Int) : List Int × Int × Int :=
  if timesC (inB day 1 100000) l 12 = 0 then if l.any (fun t => decide (day < t)) then ([], 0, 6) else (greedyI day 0 0 l, if l.length = 0 then 0 else lastI day 0 0 l + 1, 0) else ([], 0, timesC (inB day 1 100000) l 12)
theorem lastI_bd (m c s : Int) (l : List Int) : c ≤ lastI m c s l ∧ lastI m c s l ≤ c + l.length := by
  induction l generalizing c s with
  | nil => simp [lastI]
  | cons t ts ih =>
    rw [lastI]
    split
    · have := ih (c + 1) t; simp only [List.length_cons]; omega
    · have := ih c (s + t); simp only [List.length_cons]; omega
theorem impl_days_eq (l : List Int) (day : Int) : impl_DaysFor.f l day = some (daysC l day) := by
  unfold impl_DaysFor.f daysC
  rw [impl_times_eq]
  simp only [Option.bind_some]
  by_cases h : timesC (inB day 1 100000) l 12 = 0
  · rw [if_pos h, if_pos h]
    obtain ⟨_, hb, hl⟩ := timesC_zero h
    by_cases ha : l.any (fun t => decide (day < t)) = true
    · rw [if_pos ha, if_pos ha]
    · rw [if_neg ha, if_neg ha, order_eq l day hb (by omega) (by omega)]
      simp only [Option.bind_some, greedyI_len]
      by_cases h0 : l.length = 0
      · rw [if_pos h0, if_pos h0]
      · rw [if_neg h0, if_neg h0, greedyI_last _ _ _ _ (by omega)]
        have := lastI_bd day 0 0 l
        rw [w64 (by omega) (by omega)]
  · rw [if_neg h, if_neg h]
theorem days_l1 (l : List Int) (day : Int) (hb : timesB l = true) (hl : l.length ≤ 12) (hday : 1 ≤ day ∧ day ≤ 100000) : ∀ (d k n : Nat) (c s : Int) (out : List Int), n + d = l.length → d < k → out.length ≤ n → 0 ≤ c → c ≤ n → 0 ≤ s → s ≤ 100000 * n →
    spec_DaysFor.l1 k l day out c (day - s) n = some (out ++ greedyI day c s (l.drop n), lastI day c s (l.drop n) + 1, 0)
  | 0, k, n, c, s, out, hd, hk, ho, h1, h2, h3, h4 => by
    obtain ⟨k, rfl⟩ := some_k hk
    simp only [spec_DaysFor.l1]
    rw [if_neg (by omega), List.drop_eq_nil_of_le (by omega), w64 (by omega) (by omega)]
    simp [greedyI, lastI]
  | d + 1, k, n, c, s, out, hd, hk, ho, h1, h2, h3, h4 => by
    obtain ⟨k, rfl⟩ := some_k hk
    have ht := times_rd hb n (by omega)
    simp only [spec_DaysFor.l1]
    rw [if_pos (by omega), if_neg (by omega), if_pos (by omega), wrap_succ n (by omega), w64 (x := c + 1) (by omega) (by omega), w64 (x := day - rd l n) (by omega) (by omega), w64 (x := day - s - rd l n) (by omega) (by omega), drop_cons l n (by omega), greedyI, lastI]
    by_cases h : day < s + rd l n
    · rw [if_pos (by omega), if_pos (by omega), if_pos h, if_pos h, days_l1 l day hb hl hday d k (n + 1) _ _ _ (by omega) (by omega) (by simp; omega) (by omega) (by omega) (by omega) (by omega)]
      simp
    · rw [if_neg (by omega), if_pos (by omega), if_neg h, if_neg h, show day - s - rd l n = day - (s + rd l n) by omega, days_l1 l day hb hl hday d k (n + 1) _ _ _ (by omega) (by omega) (by simp; omega) (by omega) (by omega) (by omega) (by omega)]
      simp
theorem days_loop (l : List Int) (day : Int) (hb : timesB l = true) (hl : l.length ≤ 12) (hday : 1 ≤ day ∧ day ≤ 100000) (hle : ∀ n, n < l.length → rd l n ≤ day) {k : Nat} (hk : l.length < k) :
    spec_DaysFor.l1 k l day [] (-1) 0 0 = some (greedyI day 0 0 l, if l.length = 0 then 0 else lastI day 0 0 l + 1, 0) := by
  obtain ⟨k, rfl⟩ := some_k hk
  simp only [spec_DaysFor.l1]
  by_cases h0 : l.length = 0
  · obtain rfl : l = [] := List.eq_nil_of_length_eq_zero h0
    rw [if_neg (by simp), w64 (by omega) (by omega)]
    rfl
  · have ht := times_rd hb 0 (by omega)
    have hd := hle 0 (by omega)
    rw [if_pos (by omega), if_pos (by omega), if_pos (by omega), if_pos (by simp), if_neg h0]
    rw [show (wrap64 (-1 + 1)) = 0 from w64 (by omega) (by omega), show wrap64 (0 + 1) = ((1 : Nat) : Int) from w64 (by omega) (by omega)]
    have e0 : rd l ((0 : Nat) : Int) = rd l 0 := rfl
    rw [w64 (x := day - rd l 0) (by omega) (by omega)]
    rw [e0] at ht hd
    have := days_l1 l day hb hl hday (l.length - 1) k 1 0 (rd l 0) [0] (by omega) (by omega) (by simp) (by omega) (by omega) (by omega) (by omega)
    rw [List.nil_append, this]
    have e : l = rd l 0 :: l.drop 1 := by have := drop_cons l 0 (by omega); rw [List.drop_zero] at this; exact this
    have e1 : greedyI day 0 0 l = 0 :: greedyI day 0 (rd l 0) (l.drop 1) := by
      conv => lhs; rw [e]
      rw [greedyI, if_neg (by omega), Int.zero_add]
    have e2 : lastI day 0 0 l = lastI day 0 (rd l 0) (l.drop 1) := by
      conv => lhs; rw [e]
      rw [lastI, if_neg (by omega), Int.zero_add]
    rw [e1, e2]
    rfl
theorem days_l0 (l : List Int) (day : Int) (hl : l.length ≤ 1048576) : ∀ (d k n : Nat) (c : Int), n + d = l.length → 2 * d + 2 + l.length < k → (c = 0 → timesB l = true ∧ l.length ≤ 12 ∧ 1 ≤ day ∧ day ≤ 100000 ∧ ∀ j, j < n → rd l j ≤ day) →
    spec_DaysFor.l0 k l day c n = some (if c = 0 then if (l.drop n).any (fun t => decide (day < t)) then ([], 0, 6) else (greedyI day 0 0 l, if l.length = 0 then 0 else lastI day 0 0 l + 1, 0) else ([], 0, c))
  | 0, k, n, c, hd, hk, hc => by
    obtain ⟨k, rfl⟩ : ∃ m, k = m + 2 := ⟨k - 2, by omega⟩
    simp only [spec_DaysFor.l0]
    rw [if_neg (by omega), List.drop_eq_nil_of_le (by omega)]
    simp only [spec_DaysFor.j1, Bool.false_eq_true, if_false, List.any_nil]
    by_cases h : c = 0
    · obtain ⟨h1, h2, h3, h4, h5⟩ := hc h
      rw [if_pos h, if_pos h]
      exact days_loop l day h1 h2 ⟨h3, h4⟩ (fun j hj => h5 j (by omega)) (by omega)
    · rw [if_neg h, if_neg h]
  | d + 1, k, n, c, hd, hk, hc => by
    obtain ⟨k, rfl⟩ : ∃ m, k = m + 2 := ⟨k - 2, by omega⟩
    simp only [spec_DaysFor.l0]
    rw [if_pos (by omega), drop_cons l n (by omega)]
    simp only [spec_DaysFor.j1]
    by_cases h : c = 0
    · subst h
      obtain ⟨h1, h2, h3, h4, h5⟩ := hc rfl
      rw [if_pos (by decide), if_pos (by omega), if_pos (by omega), wrap_succ n (by omega)]
      by_cases hd2 : day < rd l n
      · rw [if_pos (by omega), days_l0 l day hl d k (n + 1) 6 (by omega) (by omega) (fun h => by omega)]
        simp [hd2]
      · rw [if_neg (by omega), days_l0 l day hl d k (n + 1) 0 (by omega) (by omega) (fun _ => ⟨h1, h2, h3, h4, fun j hj => by
          by_cases e : j = n
          · subst e; omega
          · exact h5 j (by omega)⟩)]
        simp [hd2]
    · rw [if_neg (by simpa using h), if_neg h, if_neg h]
theorem spec_days_eq {k : Nat} (l : List Int) (day : Int) (hl : l.length ≤ 1048576) (hk : 3 * l.length + 2 < k) : spec_DaysFor.f k l day = some (daysC l day) := by
  unfold spec_DaysFor.f daysC
  rw [minutes_eq]
  simp only [Option.bind_some]
  rw [spec_times_eq l _ 12 (by omega) hl (by omega)]
  simp only [Option.bind_some]
  have := days_l0 l day hl l.length k 0 (timesC (inB day 1 100000) l 12) (by omega) (by omega) (fun h => by
    obtain ⟨h1, h2, h3⟩ := timesC_zero h
    have := inB_iff.1 h1
    exact ⟨h2, by omega, this.1, this.2, fun j hj => by omega⟩)
  simpa using this
theorem daysC_len (l : List Int) (day : Int) : (daysC l day).1.length ≤ l.length := by
  unfold daysC
  (repeat' split) <;> simp [greedyI_len]
theorem FnExactDaysFor : laws_FnExactDaysFor.Pure := by
  intro l a _ _ _ _
  refine ⟨3 * l.length + 12, ?_⟩
  unfold laws_FnExactDaysFor.f
  by_cases h : (l.length : Int) > 1048576
  · rw [if_pos h]
  · have hl := daysC_len l a
    have hs : ∀ k, 3 * l.length + 2 < k → spec_DaysFor.f k l a = some (daysC l a) := fun k hk => spec_days_eq l a (by omega) hk
    rw [if_neg h]
    repeat (first | rw [toInt64S_eq (by omega) (by omega)] | rw [hs _ (by omega)] | rw [impl_days_eq] | rw [eqInt64S_self (by omega) (by omega)] | rw [markInt64S_eq (by omega) (by omega) (by omega) (by omega)] | rw [heldInt64S_eq (by omega) (by omega) (by omega) (by omega)] | simp only [Option.bind_some, if_true, bne_self_eq_false, Bool.false_eq_true, if_false, laws_FnExactDaysFor.j0, laws_FnExactDaysFor.j1, laws_FnExactDaysFor.j2] | rw [if_neg (by omega)])

/-- The numbers from 0 on. -/
def upto (n : Nat) : List Int := (List.range n).map fun (i : Nat) => (i : Int)
theorem upto_succ (n : Nat) : upto (n + 1) = upto n ++ [(n : Int)] := by simp [upto, List.range_succ]
theorem upto_len (n : Nat) : (upto n).length = n := by simp [upto]
theorem upto_rd (n j : Nat) (h : j < n) : rd (upto n) j = j := by
  rw [rd_get _ _ (by rw [upto_len]; exact h)]
  simp [upto]
theorem indL_all (n : Nat) : indL (fun _ => true) n = upto n := by simp [indL, upto]
theorem rising_l0 (n : Nat) (hn : n ≤ 1048576) : ∀ (d k j : Nat), j + d = n → d < k → spec_l05Rising.l0 k n (upto j) j = some (upto n)
  | 0, k, j, hd, hk => by
    obtain ⟨k, rfl⟩ := some_k hk
    simp only [spec_l05Rising.l0]
    rw [if_neg (by omega)]
    obtain rfl : j = n := by omega
    rfl
  | d + 1, k, j, hd, hk => by
    obtain ⟨k, rfl⟩ := some_k hk
    simp only [spec_l05Rising.l0]
    rw [if_pos (by omega), if_pos (by rw [upto_len]; omega), wrap_succ j (by omega), ← upto_succ]
    exact rising_l0 n hn d k (j + 1) (by omega) (by omega)
theorem rising_eq {k : Nat} (n : Nat) (hn : n ≤ 1048576) (hk : n < k) : spec_l05Rising.f k n = some (upto n) := by
  unfold spec_l05Rising.f
  exact rising_l0 n hn n k 0 (by omega) hk

/-- The late lines of an order, from a time on. -/
def lateL (t d : List Int) (now : Int) : List Int → List Int
  | [] => []
  | i :: is => if wrap64 (now + rd t i) > rd d i then i :: lateL t d (wrap64 (now + rd t i)) is else lateL t d (wrap64 (now + rd t i)) is
theorem lateL_len (t d : List Int) (now : Int) (o : List Int) : (lateL t d now o).length ≤ o.length := by
  induction o generalizing now with
  | nil => simp [lateL]
  | cons i is ih =>
    rw [lateL]
    have := ih (wrap64 (now + rd t i))
    split <;> simp <;> omega
/-- An order's numbers are indices of both lists. -/
def inds (o : List Int) (n : Nat) : Prop := ∀ i ∈ o, 0 ≤ i ∧ i < n
theorem spec_late_l0 (t d o : List Int) (ho : o.length ≤ 1048576) (hi : inds o t.length) (hi2 : inds o d.length) : ∀ (r k n : Nat) (out : List Int) (now : Int), n + r = o.length → r < k → out.length ≤ n →
    spec_l05Late.l0 k t d o out now n = some (out ++ lateL t d now (o.drop n))
  | 0, k, n, out, now, hd, hk, hl => by
    obtain ⟨k, rfl⟩ := some_k hk
    simp only [spec_l05Late.l0]
    rw [if_neg (by omega), List.drop_eq_nil_of_le (by omega)]
    simp [lateL]
  | r + 1, k, n, out, now, hd, hk, hl => by
    obtain ⟨k, rfl⟩ := some_k hk
    have h1 := hi _ (rd_mem o n (by omega))
    have h2 := hi2 _ (rd_mem o n (by omega))
    simp only [spec_l05Late.l0]
    rw [if_pos (by omega), if_pos (by omega), if_pos h1.1, if_pos h1.2, if_pos h2.2, wrap_succ n (by omega), drop_cons o n (by omega), lateL]
    by_cases h : wrap64 (now + rd t (rd o n)) > rd d (rd o n)
    · rw [if_pos h, if_pos (by omega), if_pos h, spec_late_l0 t d o ho hi hi2 r k (n + 1) _ _ (by omega) (by omega) (by simp; omega)]
      simp
    · rw [if_neg h, if_neg h, spec_late_l0 t d o ho hi hi2 r k (n + 1) _ _ (by omega) (by omega) (by omega)]
theorem spec_late_eq {k : Nat} (t d o : List Int) (ho : o.length ≤ 1048576) (hi : inds o t.length) (hi2 : inds o d.length) (hk : o.length < k) : spec_l05Late.f k t d o = some (lateL t d 0 o) := by
  unfold spec_l05Late.f
  have := spec_late_l0 t d o ho hi hi2 o.length k 0 [] 0 (by omega) hk (by simp)
  simpa using this
theorem impl_late_l0 (t d o : List Int) (ho : o.length ≤ 1048576) (hi : inds o t.length) (hi2 : inds o d.length) : ∀ (r k n : Nat) (out : List Int) (now : Int), n + r = o.length → r < k → out.length ≤ n →
    impl_late.l0 k t d out now o o.length n = some (out ++ lateL t d now (o.drop n))
  | 0, k, n, out, now, hd, hk, hl => by
    obtain ⟨k, rfl⟩ := some_k hk
    simp only [impl_late.l0]
    rw [if_neg (by omega), List.drop_eq_nil_of_le (by omega)]
    simp [lateL]
  | r + 1, k, n, out, now, hd, hk, hl => by
    obtain ⟨k, rfl⟩ := some_k hk
    have h1 := hi _ (rd_mem o n (by omega))
    have h2 := hi2 _ (rd_mem o n (by omega))
    simp only [impl_late.l0]
    rw [if_pos (by omega), if_pos (by omega), if_pos (by omega), if_pos h1.1, if_pos h1.2, if_pos h2.2, wrap_succ n (by omega), drop_cons o n (by omega), lateL]
    by_cases h : wrap64 (now + rd t (rd o n)) > rd d (rd o n)
    · rw [if_pos h, if_pos (by omega), if_pos h, impl_late_l0 t d o ho hi hi2 r k (n + 1) _ _ (by omega) (by omega) (by simp; omega)]
      simp
    · rw [if_neg h, if_neg h, impl_late_l0 t d o ho hi hi2 r k (n + 1) _ _ (by omega) (by omega) (by omega)]
theorem impl_late_eq {k : Nat} (t d o : List Int) (ho : o.length ≤ 1048576) (hi : inds o t.length) (hi2 : inds o d.length) (hk : o.length < k) : impl_late.f k t d o = some (lateL t d 0 o) := by
  unfold impl_late.f
  have := impl_late_l0 t d o ho hi hi2 o.length k 0 [] 0 (by omega) hk (by simp)
  simpa using this

/-- Dues are as told. -/
def duesB (t d : List Int) : Bool := d.all (fun n => inB n 0 1200000) && decide (t.length = d.length)
theorem dues_l0 (t d : List Int) (hl : d.length ≤ 1048576) : ∀ (r k n : Nat), n + r = d.length → r < k → spec_l05Dues.l0 k t d n = some ((d.drop n).all (fun n => inB n 0 1200000) && decide (t.length = d.length))
  | 0, k, n, hd, hk => by
    obtain ⟨k, rfl⟩ := some_k hk
    simp only [spec_l05Dues.l0]
    rw [if_neg (by omega), List.drop_eq_nil_of_le (by omega)]
    congr 1
    rw [Bool.eq_iff_iff]; simp; omega
  | r + 1, k, n, hd, hk => by
    obtain ⟨k, rfl⟩ := some_k hk
    simp only [spec_l05Dues.l0]
    rw [if_pos (by omega), if_pos (by omega), in_eq, drop_cons d n (by omega), wrap_succ n (by omega)]
    simp only [Option.bind_some, List.all_cons]
    cases inB (rd d n) 0 1200000
    · simp
    · rw [if_pos rfl, dues_l0 t d hl r k (n + 1) (by omega) (by omega)]
      simp
theorem dues_eq {k : Nat} (t d : List Int) (hl : d.length ≤ 1048576) (hk : d.length < k) : spec_l05Dues.f k t d = some (duesB t d) := by
  unfold spec_l05Dues.f duesB
  have := dues_l0 t d hl d.length k 0 (by omega) hk
  simpa using this
theorem impl_due_eq (t d : List Int) (m : Int) : impl_dueCode.f t d m = some (timesC (duesB t d) t m) := by
  unfold impl_dueCode.f slices_ContainsFunc_int64_int64_at_impl_dueCode_1.f
  rw [any_out]
  simp only [Option.bind_some]
  by_cases h : t.length = d.length
  · rw [if_pos (by omega)]
    cases ha : d.all (fun n => inB n 0 1200000)
    · have : duesB t d = false := by simp [duesB, ha]
      rw [this]; simp [timesC]
    · have : duesB t d = true := by simp [duesB, ha, h]
      rw [this, impl_times_eq]
      simp [inB]
  · rw [if_neg (by omega)]
    have : duesB t d = false := by simp [duesB, h]
    rw [this]; simp [timesC]
def lateC (t d : List Int) : List Int × Int := if timesC (duesB t d) t 12 = 0 then (lateL t d 0 (upto t.length), 0) else ([], timesC (duesB t d) t 12)
theorem inds_upto (n : Nat) : inds (upto n) n := by
  intro i hi
  simp only [upto, List.mem_map, List.mem_range] at hi
  obtain ⟨j, hj, rfl⟩ := hi
  omega
theorem duesB_len {t d : List Int} (h : duesB t d = true) : t.length = d.length := by
  unfold duesB at h
  rw [Bool.and_eq_true] at h
  simpa using h.2
theorem impl_lateLines_eq {k : Nat} (t d : List Int) (hl : t.length ≤ 1048576) (hk : t.length < k) : impl_LateLines.f k t d = some (lateC t d) := by
  unfold impl_LateLines.f lateC
  rw [impl_due_eq]
  simp only [Option.bind_some]
  by_cases h : timesC (duesB t d) t 12 = 0
  · rw [if_pos h, if_pos h]
    have h1 := timesC_zero h
    have e := duesB_len h1.1
    unfold impl_indices_at_impl_LateLines_1.f
    rw [if_pos (by omega)]
    simp only [Option.bind_some, Int.toNat_natCast, indL_all]
    rw [impl_late_eq t d _ (by rw [upto_len]; exact hl) (inds_upto _) (by rw [← e]; exact inds_upto _) (by rw [upto_len]; omega)]
    rfl
  · rw [if_neg h, if_neg h]
theorem spec_lateLines_eq {k : Nat} (t d : List Int) (hl : t.length ≤ 1048576) (hl2 : d.length ≤ 1048576) (hk : t.length + d.length < k) : spec_LateLines.f k t d = some (lateC t d) := by
  unfold spec_LateLines.f lateC
  rw [dues_eq t d hl2 (by omega)]
  simp only [Option.bind_some]
  rw [spec_times_eq t _ 12 (by omega) hl (by omega)]
  simp only [Option.bind_some]
  by_cases h : timesC (duesB t d) t 12 = 0
  · rw [if_pos h, if_pos h]
    have h1 := timesC_zero h
    have e := duesB_len h1.1
    rw [rising_eq _ hl (by omega)]
    simp only [Option.bind_some]
    rw [spec_late_eq t d _ (by rw [upto_len]; exact hl) (inds_upto _) (by rw [← e]; exact inds_upto _) (by rw [upto_len]; omega)]
    rfl
  · rw [if_neg h, if_neg h]
theorem lateC_len (t d : List Int) : (lateC t d).1.length ≤ t.length := by
  unfold lateC
  split
  · have := lateL_len t d 0 (upto t.length)
    rw [upto_len] at this; exact this
  · simp
theorem FnExactLateLines : laws_FnExactLateLines.Pure := by
  intro t d _ _ _ _ _ _
  refine ⟨t.length + d.length + 12, ?_⟩
  unfold laws_FnExactLateLines.f
  by_cases h : (t.length : Int) > 1048576
  · rw [if_pos h]
  · by_cases h2 : (d.length : Int) > 1048576
    · rw [if_neg h, if_pos h2]
    · have hl := lateC_len t d
      have hs : ∀ k, t.length + d.length < k → spec_LateLines.f k t d = some (lateC t d) := fun k hk => spec_lateLines_eq t d (by omega) (by omega) hk
      have hi : ∀ k, t.length < k → impl_LateLines.f k t d = some (lateC t d) := fun k hk => impl_lateLines_eq t d (by omega) hk
      rw [if_neg h, if_neg h2]
      repeat (first | rw [toInt64S_eq (by omega) (by omega)] | rw [hs _ (by omega)] | rw [hi _ (by omega)] | rw [eqInt64S_self (by omega) (by omega)] | rw [markInt64S_eq (by omega) (by omega) (by omega) (by omega)] | rw [heldInt64S_eq (by omega) (by omega) (by omega) (by omega)] | simp only [Option.bind_some, if_true, bne_self_eq_false, Bool.false_eq_true, if_false, laws_FnExactLateLines.j0, laws_FnExactLateLines.j1, laws_FnExactLateLines.j2] | rw [if_neg (by omega)])
end Go.Proofs.Ytgfjmamjfkcmbaa.Pure
