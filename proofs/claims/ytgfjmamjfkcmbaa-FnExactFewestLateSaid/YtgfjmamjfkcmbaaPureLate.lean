/- Plain laws of late lines. -/
import Derived.Test.YtgfjmamjfkcmbaaPureTimes
import Derived.Test.YtgfjmamjfkcmbaaQ21
import Derived.Test.YtgfjmamjfkcmbaaQ20
import Derived.Test.YtgfjmamjfkcmbaaQ19
import Derived.Test.YtgfjmamjfkcmbaaQ23
namespace Go.Proofs.Ytgfjmamjfkcmbaa.Pure
open Go.RowKit Go.Proofs.Ytgfjmamjfkcmbaa.Ext Go.Proofs.Ytgfjmamjfkcmbaa.Q Go.Proofs.YtgfjmamjfkcmbaaW.PrintWords Go.Proofs.YtgfjmamjfkcmbaaW.PrintLast Go.Proofs.YtgfjmamjfkcmbaaW.PrintMore
set_option linter.unusedVariables false
set_option linter.unusedSimpArgs false
/-- The numbers from 0 on. -/
def upto (n : Nat) : List Int := (List.range n).map fun (i : Nat) => (i : Int)
theorem upto_succ (n : Nat) : upto (n + 1) = upto n ++ [(n : Int)] := by simp [upto, List.range_succ]
theorem upto_len (n : Nat) : (upto n).length = n := by simp [upto]
theorem upto_rd (n j : Nat) (h : j < n) : rd (upto n) j = j := by
  rw [rd_get _ _ (by rw [upto_len]; exact h)]
  simp [upto]
theorem indL_all (n : Nat) : indL (fun _ => true) n = upto n := by simp [indL, upto]
theorem rising_l0 (n : Nat) (hn : n ≤ 1048576) : ∀ (d k j : Nat), j + d = n → d < k → spec_l05Rising.l0 k n (upto j) j = some (upto n)
  | 0, k, j, hd, hk => by
    obtain ⟨k, rfl⟩ := some_k hk
    simp only [spec_l05Rising.l0]
    rw [if_neg (by omega)]
    obtain rfl : j = n := by omega
    rfl
  | d + 1, k, j, hd, hk => by
    obtain ⟨k, rfl⟩ := some_k hk
    simp only [spec_l05Rising.l0]
    rw [if_pos (by omega), if_pos (by rw [upto_len]; omega), wrap_succ j (by omega), ← upto_succ]
    exact rising_l0 n hn d k (j + 1) (by omega) (by omega)
theorem rising_eq {k : Nat} (n : Nat) (hn : n ≤ 1048576) (hk : n < k) : spec_l05Rising.f k n = some (upto n) := by
  unfold spec_l05Rising.f
  exact rising_l0 n hn n k 0 (by omega) hk

/-- The late lines of an order, from a time on. -/
def lateL (t d : List Int) (now : Int) : List Int → List Int
  | [] => []
  | i :: is => if wrap64 (now + rd t i) > rd d i then i :: lateL t d (wrap64 (now + rd t i)) is else lateL t d (wrap64 (now + rd t i)) is
theorem lateL_len (t d : List Int) (now : Int) (o : List Int) : (lateL t d now o).length ≤ o.length := by
  induction o generalizing now with
  | nil => simp [lateL]
  | cons i is ih =>
    rw [lateL]
    have := ih (wrap64 (now + rd t i))
    split <;> simp <;> omega
/-- An order's numbers are indices of both lists. -/
def inds (o : List Int) (n : Nat) : Prop := ∀ i ∈ o, 0 ≤ i ∧ i < n
theorem spec_late_l0 (t d o : List Int) (ho : o.length ≤ 1048576) (hi : inds o t.length) (hi2 : inds o d.length) : ∀ (r k n : Nat) (out : List Int) (now : Int), n + r = o.length → r < k → out.length ≤ n →
    spec_l05Late.l0 k t d o out now n = some (out ++ lateL t d now (o.drop n))
  | 0, k, n, out, now, hd, hk, hl => by
    obtain ⟨k, rfl⟩ := some_k hk
    simp only [spec_l05Late.l0]
    rw [if_neg (by omega), List.drop_eq_nil_of_le (by omega)]
    simp [lateL]
  | r + 1, k, n, out, now, hd, hk, hl => by
    obtain ⟨k, rfl⟩ := some_k hk
    have h1 := hi _ (rd_mem o n (by omega))
    have h2 := hi2 _ (rd_mem o n (by omega))
    simp only [spec_l05Late.l0]
    rw [if_pos (by omega), if_pos (by omega), if_pos h1.1, if_pos h1.2, if_pos h2.2, wrap_succ n (by omega), drop_cons o n (by omega), lateL]
    by_cases h : wrap64 (now + rd t (rd o n)) > rd d (rd o n)
    · rw [if_pos h, if_pos (by omega), if_pos h, spec_late_l0 t d o ho hi hi2 r k (n + 1) _ _ (by omega) (by omega) (by simp; omega)]
      simp
    · rw [if_neg h, if_neg h, spec_late_l0 t d o ho hi hi2 r k (n + 1) _ _ (by omega) (by omega) (by omega)]
theorem spec_late_eq {k : Nat} (t d o : List Int) (ho : o.length ≤ 1048576) (hi : inds o t.length) (hi2 : inds o d.length) (hk : o.length < k) : spec_l05Late.f k t d o = some (lateL t d 0 o) := by
  unfold spec_l05Late.f
  have := spec_late_l0 t d o ho hi hi2 o.length k 0 [] 0 (by omega) hk (by simp)
  simpa using this
theorem impl_late_l0 (t d o : List Int) (ho : o.length ≤ 1048576) (hi : inds o t.length) (hi2 : inds o d.length) : ∀ (r k n : Nat) (out : List Int) (now : Int), n + r = o.length → r < k → out.length ≤ n →
    impl_late.l0 k t d out now o o.length n = some (out ++ lateL t d now (o.drop n))
  | 0, k, n, out, now, hd, hk, hl => by
    obtain ⟨k, rfl⟩ := some_k hk
    simp only [impl_late.l0]
    rw [if_neg (by omega), List.drop_eq_nil_of_le (by omega)]
    simp [lateL]
  | r + 1, k, n, out, now, hd, hk, hl => by
    obtain ⟨k, rfl⟩ := some_k hk
    have h1 := hi _ (rd_mem o n (by omega))
    have h2 := hi2 _ (rd_mem o n (by omega))
    simp only [impl_late.l0]
    rw [if_pos (by omega), if_pos (by omega), if_pos (by omega), if_pos h1.1, if_pos h1.2, if_pos h2.2, wrap_succ n (by omega), drop_cons o n (by omega), lateL]
    by_cases h : wrap64 (now + rd t (rd o n)) > rd d (rd o n)
    · rw [if_pos h, if_pos (by omega), if_pos h, impl_late_l0 t d o ho hi hi2 r k (n + 1) _ _ (by omega) (by omega) (by simp; omega)]
      simp
    · rw [if_neg h, if_neg h, impl_late_l0 t d o ho hi hi2 r k (n + 1) _ _ (by omega) (by omega) (by omega)]
theorem impl_late_eq {k : Nat} (t d o : List Int) (ho : o.length ≤ 1048576) (hi : inds o t.length) (hi2 : inds o d.length) (hk : o.length < k) : impl_late.f k t d o = some (lateL t d 0 o) := by
  unfold impl_late.f
  have := impl_late_l0 t d o ho hi hi2 o.length k 0 [] 0 (by omega) hk (by simp)
  simpa using this

/-- Dues are as told. -/
def duesB (t d : List Int) : Bool := d.all (fun n => inB n 0 1200000) && decide (t.length = d.length)
theorem dues_l0 (t d : List Int) (hl : d.length ≤ 1048576) : ∀ (r k n : Nat), n + r = d.length → r < k → spec_l05Dues.l0 k t d n = some ((d.drop n).all (fun n => inB n 0 1200000) && decide (t.length = d.length))
  | 0, k, n, hd, hk => by
    obtain ⟨k, rfl⟩ := some_k hk
    simp only [spec_l05Dues.l0]
    rw [if_neg (by omega), List.drop_eq_nil_of_le (by omega)]
    congr 1
    rw [Bool.eq_iff_iff]; simp; omega
  | r + 1, k, n, hd, hk => by
    obtain ⟨k, rfl⟩ := some_k hk
    simp only [spec_l05Dues.l0]
    rw [if_pos (by omega), if_pos (by omega), in_eq, drop_cons d n (by omega), wrap_succ n (by omega)]
    simp only [Option.bind_some, List.all_cons]
    cases inB (rd d n) 0 1200000
    · simp
    · rw [if_pos rfl, dues_l0 t d hl r k (n + 1) (by omega) (by omega)]
      simp
theorem dues_eq {k : Nat} (t d : List Int) (hl : d.length ≤ 1048576) (hk : d.length < k) : spec_l05Dues.f k t d = some (duesB t d) := by
  unfold spec_l05Dues.f duesB
  have := dues_l0 t d hl d.length k 0 (by omega) hk
  simpa using this
theorem impl_due_eq (t d : List Int) (m : Int) : impl_dueCode.f t d m = some (timesC (duesB t d) t m) := by
  unfold impl_dueCode.f slices_ContainsFunc_int64_int64_at_impl_dueCode_1.f
  rw [any_out]
  simp only [Option.bind_some]
  by_cases h : t.length = d.length
  · rw [if_pos (by omega)]
    cases ha : d.all (fun n => inB n 0 1200000)
    · have : duesB t d = false := by simp [duesB, ha]
      rw [this]; simp [timesC]
    · have : duesB t d = true := by simp [duesB, ha, h]
      rw [this, impl_times_eq]
      simp [inB]
  · rw [if_neg (by omega)]
    have : duesB t d = false := by simp [duesB, h]
    rw [this]; simp [timesC]
def lateC (t d : List Int) : List Int × Int := if timesC (duesB t d) t 12 = 0 then (lateL t d 0 (upto t.length), 0) else ([], timesC (duesB t d) t 12)
theorem inds_upto (n : Nat) : inds (upto n) n := by
  intro i hi
  simp only [upto, List.mem_map, List.mem_range] at hi
  obtain ⟨j, hj, rfl⟩ := hi
  omega
theorem duesB_len {t d : List Int} (h : duesB t d = true) : t.length = d.length := by
  unfold duesB at h
  rw [Bool.and_eq_true] at h
  simpa using h.2
theorem impl_lateLines_eq {k : Nat} (t d : List Int) (hl : t.length ≤ 1048576) (hk : t.length < k) : impl_LateLines.f k t d = some (lateC t d) := by
  unfold impl_LateLines.f lateC
  rw [impl_due_eq]
  simp only [Option.bind_some]
  by_cases h : timesC (duesB t d) t 12 = 0
  · rw [if_pos h, if_pos h]
    have h1 := timesC_zero h
    have e := duesB_len h1.1
    unfold impl_indices_at_impl_LateLines_1.f
    rw [if_pos (by omega)]
    simp only [Option.bind_some, Int.toNat_natCast, indL_all]
    rw [impl_late_eq t d _ (by rw [upto_len]; exact hl) (inds_upto _) (by rw [← e]; exact inds_upto _) (by rw [upto_len]; omega)]
    rfl
  · rw [if_neg h, if_neg h]
theorem spec_lateLines_eq {k : Nat} (t d : List Int) (hl : t.length ≤ 1048576) (hl2 : d.length ≤ 1048576) (hk : t.length + d.length < k) : spec_LateLines.f k t d = some (lateC t d) := by
  unfold spec_LateLines.f lateC
  rw [dues_eq t d hl2 (by omega)]
  simp only [Option.bind_some]
  rw [spec_times_eq t _ 12 (by omega) hl (by omega)]
  simp only [Option.bind_some]
  by_cases h : timesC (duesB t d) t 12 = 0
  · rw [if_pos h, if_pos h]
    have h1 := timesC_zero h
    have e := duesB_len h1.1
    rw [rising_eq _ hl (by omega)]
    simp only [Option.bind_some]
    rw [spec_late_eq t d _ (by rw [upto_len]; exact hl) (inds_upto _) (by rw [← e]; exact inds_upto _) (by rw [upto_len]; omega)]
    rfl
  · rw [if_neg h, if_neg h]
theorem lateC_len (t d : List Int) : (lateC t d).1.length ≤ t.length := by
  unfold lateC
  split
  · have := lateL_len t d 0 (upto t.length)
    rw [upto_len] at this; exact this
  · simp
end Go.Proofs.Ytgfjmamjfkcmbaa.Pure
