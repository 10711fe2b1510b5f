/- Plain laws of times: their code. -/
import Derived.Test.YtgfjmamjfkcmbaaPureBase
import Derived.Test.YtgfjmamjfkcmbaaExtA
import Derived.Test.YtgfjmamjfkcmbaaQ15
import Derived.Test.YtgfjmamjfkcmbaaQ16
import Derived.Test.YtgfjmamjfkcmbaaQ16
namespace Go.Proofs.Ytgfjmamjfkcmbaa.Pure
open Go.RowKit Go.Proofs.Ytgfjmamjfkcmbaa.Ext Go.Proofs.Ytgfjmamjfkcmbaa.Q Go.Proofs.YtgfjmamjfkcmbaaW.PrintWords Go.Proofs.YtgfjmamjfkcmbaaW.PrintLast Go.Proofs.YtgfjmamjfkcmbaaW.PrintMore
set_option linter.unusedVariables false
set_option linter.unusedSimpArgs false
/-- Times are as told. -/
def timesB (l : List Int) : Bool := l.all fun n => inB n 1 100000
def timesC (b : Bool) (l : List Int) (most : Int) : Int := if b && timesB l then if (l.length : Int) ≤ most then 0 else 3 else 2
theorem any_out (l : List Int) (a b : Int) : l.any (outB a b) = !l.all (fun n => inB n a b) := by
  rw [Bool.eq_iff_iff]
  simp [outB]
theorem impl_times_eq (l : List Int) (n most lines : Int) : impl_timesCode.f l n most lines = some (timesC (inB n 1 most) l lines) := by
  unfold impl_timesCode.f timesC slices_ContainsFunc_int64_int64_at_impl_timesCode_1.f impl_unless.f timesB
  rw [within_eq, any_out]
  simp only [Option.bind_some]
  cases inB n 1 most <;> cases l.all (fun n => inB n 1 100000) <;> simp
  by_cases h : (l.length : Int) ≤ lines
  · simp [h]
  · simp [h]
theorem minutes_eq (n : Int) : spec_l05Minutes.f n = some (inB n 1 100000) := by
  unfold spec_l05Minutes.f
  rw [in_eq]; rfl
theorem times_l0 (l : List Int) (m : Int) (hm : m ≤ 12) (hl : l.length ≤ 1048576) : ∀ (d k n : Nat) (b : Bool), n + d = l.length → d < k →
    spec_l05Times.l0 k l b m n = some (if b && (l.drop n).all (fun n => inB n 1 100000) then if (l.length : Int) ≤ m then 0 else 3 else 2)
  | 0, k, n, b, hd, hk => by
    obtain ⟨k, rfl⟩ := some_k hk
    simp only [spec_l05Times.l0]
    rw [if_neg (by omega), List.drop_eq_nil_of_le (by omega)]
    cases b
    · simp
    · simp only [if_true, List.all_nil, Bool.and_true]
      by_cases h : (l.length : Int) ≤ m
      · rw [if_neg (by omega), if_neg (by omega), if_pos h]
      · rw [if_neg h]
        by_cases h2 : (l.length : Int) > 12
        · rw [if_pos h2]
        · rw [if_neg h2, if_pos (by omega)]
  | d + 1, k, n, b, hd, hk => by
    obtain ⟨k, rfl⟩ := some_k hk
    simp only [spec_l05Times.l0]
    rw [if_pos (by omega), drop_cons l n (by omega), wrap_succ n (by omega)]
    cases b
    · rw [if_neg (by decide), times_l0 l m hm hl d k (n + 1) false (by omega) (by omega)]
      simp
    · rw [if_pos rfl, if_pos (by omega), minutes_eq]
      simp only [Option.bind_some]
      rw [times_l0 l m hm hl d k (n + 1) _ (by omega) (by omega)]
      simp
theorem spec_times_eq {k : Nat} (l : List Int) (b : Bool) (m : Int) (hm : m ≤ 12) (hl : l.length ≤ 1048576) (hk : l.length < k) : spec_l05Times.f k l b m = some (timesC b l m) := by
  unfold spec_l05Times.f timesC timesB
  have := times_l0 l m hm hl l.length k 0 b (by omega) hk
  simpa using this
theorem timesC_zero {b : Bool} {l : List Int} {m : Int} (h : timesC b l m = 0) : b = true ∧ timesB l = true ∧ (l.length : Int) ≤ m := by
  unfold timesC at h
  split at h
  · rename_i h2
    rw [Bool.and_eq_true] at h2
    split at h
    · exact ⟨h2.1, h2.2, by assumption⟩
    · omega
  · omega
theorem times_rd {l : List Int} (h : timesB l = true) (n : Nat) (hn : n < l.length) : 1 ≤ rd l n ∧ rd l n ≤ 100000 := inB_iff.1 (rd_all h n hn)

end Go.Proofs.Ytgfjmamjfkcmbaa.Pure
