/- Plain laws of sharing in order. -/
import Derived.Test.YtgfjmamjfkcmbaaPureTimes
import Derived.Test.YtgfjmamjfkcmbaaQ15
namespace Go.Proofs.Ytgfjmamjfkcmbaa.Pure
open Go.RowKit Go.Proofs.Ytgfjmamjfkcmbaa.Ext Go.Proofs.Ytgfjmamjfkcmbaa.Q Go.Proofs.YtgfjmamjfkcmbaaW.PrintWords Go.Proofs.YtgfjmamjfkcmbaaW.PrintLast Go.Proofs.YtgfjmamjfkcmbaaW.PrintMore
set_option linter.unusedVariables false
set_option linter.unusedSimpArgs false
/-- Each line goes to the cutter of the line before as long as all are together at most m. -/
def greedyI (m c s : Int) : List Int → List Int
  | [] => []
  | t :: ts => if m < s + t then (c + 1) :: greedyI m (c + 1) t ts else c :: greedyI m c (s + t) ts
/-- The last cutter. -/
def lastI (m c s : Int) : List Int → Int
  | [] => c
  | t :: ts => if m < s + t then lastI m (c + 1) t ts else lastI m c (s + t) ts
theorem greedyI_len (m c s : Int) (l : List Int) : (greedyI m c s l).length = l.length := by
  induction l generalizing c s with
  | nil => rfl
  | cons t ts ih => simp only [greedyI]; split <;> simp [ih]
theorem greedyI_last (m c s : Int) (l : List Int) (h : 0 < l.length) : rd (greedyI m c s l) ((l.length - 1 : Nat) : Int) = lastI m c s l := by
  induction l generalizing c s with
  | nil => simp at h
  | cons t ts ih =>
    cases ts with
    | nil => simp only [greedyI, lastI, List.length_cons, List.length_nil, rd]; split <;> simp
    | cons u us =>
      have e : ((t :: u :: us).length - 1 : Nat) = (u :: us).length - 1 + 1 := by simp
      rw [e]
      have step : ∀ (x : Int) (xs : List Int) (n : Nat), rd (x :: xs) ((n + 1 : Nat) : Int) = rd xs n := by intro x xs n; simp [rd]
      rw [greedyI, lastI]
      by_cases h : m < s + t
      · rw [if_pos h, if_pos h, step]; exact ih _ _ (by simp)
      · rw [if_neg h, if_neg h, step]; exact ih _ _ (by simp)
theorem order_l0 (l : List Int) (m : Int) (hb : timesB l = true) (hl : l.length ≤ 12) : ∀ (d k n : Nat) (c s : Int) (out : List Int), n + d = l.length → d < k → out.length ≤ n → 0 ≤ c → c ≤ n → 0 ≤ s → s ≤ 100000 * n →
    impl_inOrder.l0 k m out c s l l.length n = some (out ++ greedyI m c s (l.drop n))
  | 0, k, n, c, s, out, hd, hk, ho, h1, h2, h3, h4 => by
    obtain ⟨k, rfl⟩ := some_k hk
    simp only [impl_inOrder.l0]
    rw [if_neg (by omega), List.drop_eq_nil_of_le (by omega)]
    simp [greedyI]
  | d + 1, k, n, c, s, out, hd, hk, ho, h1, h2, h3, h4 => by
    obtain ⟨k, rfl⟩ := some_k hk
    have ht := times_rd hb n (by omega)
    simp only [impl_inOrder.l0]
    rw [if_pos (by omega), if_pos (by omega), if_pos (by omega), wrap_succ n (by omega), w64 (x := s + rd l n) (by omega) (by omega), w64 (x := c + 1) (by omega) (by omega), w64 (x := 0 + rd l n) (by omega) (by omega), drop_cons l n (by omega), greedyI]
    by_cases h : m < s + rd l n
    · rw [if_pos h, if_pos (by omega), if_pos h, order_l0 l m hb hl d k (n + 1) _ _ _ (by omega) (by omega) (by simp; omega) (by omega) (by omega) (by omega) (by omega)]
      simp
    · rw [if_neg h, if_pos (by omega), if_neg h, order_l0 l m hb hl d k (n + 1) _ _ _ (by omega) (by omega) (by simp; omega) (by omega) (by omega) (by omega) (by omega)]
      simp
theorem order_eq {k : Nat} (l : List Int) (m : Int) (hb : timesB l = true) (hl : l.length ≤ 12) (hk : l.length < k) : impl_inOrder.f k l m = some (greedyI m 0 0 l) := by
  unfold impl_inOrder.f
  have := order_l0 l m hb hl l.length k 0 0 0 [] (by omega) hk (by simp) (by omega) (by omega) (by omega) (by omega)
  simpa using this

end Go.Proofs.Ytgfjmamjfkcmbaa.Pure
