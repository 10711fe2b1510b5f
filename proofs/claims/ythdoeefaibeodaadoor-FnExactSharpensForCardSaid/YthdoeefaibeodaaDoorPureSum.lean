/- Plain laws of sums and of where a chisel is sharpened. -/
import Derived.Test.YthdoeefaibeodaaDoorPureBase
import Derived.Test.YthdoeefaibeodaaDoorQ8
import Derived.Test.YthdoeefaibeodaaDoorQ8
import Derived.Test.YthdoeefaibeodaaDoorQ8
import Derived.Test.YthdoeefaibeodaaDoorQ9
import Derived.Test.YthdoeefaibeodaaDoorQ9
namespace Go.Proofs.YthdoeefaibeodaaDoor.Pure
open Go.RowKit Go.Proofs.YthdoeefaibeodaaDoor.Ext Go.Proofs.YthdoeefaibeodaaDoor.Q Go.Proofs.YthdoeefaibeodaaDoorW.PrintWords Go.Proofs.YthdoeefaibeodaaDoorW.PrintLast Go.Proofs.YthdoeefaibeodaaDoorW.PrintMore
set_option linter.unusedVariables false
set_option linter.unusedSimpArgs false
/-- The sum, as int64 has it. -/
def wsum (a : Int) : List Int → Int
  | [] => a
  | x :: l => wsum (wrap64 (a + x)) l
theorem specSum_l0 (l : List Int) (hl : l.length ≤ 4611686018427387904) : ∀ (d k n : Nat) (a : Int), n + d = l.length → d < k → spec_l05Sum.l0 k l a n = some (wsum a (l.drop n))
  | 0, k, n, a, hd, hk => by
    obtain ⟨k, rfl⟩ := some_k hk
    simp only [spec_l05Sum.l0]
    rw [if_neg (by omega), List.drop_eq_nil_of_le (by omega)]
    rfl
  | d + 1, k, n, a, hd, hk => by
    obtain ⟨k, rfl⟩ := some_k hk
    simp only [spec_l05Sum.l0]
    rw [if_pos (by omega), if_pos (by omega), wrap_succ n (by omega), specSum_l0 l hl d k (n + 1) _ (by omega) (by omega), drop_cons l n (by omega)]
    rfl
theorem specSum_eq (l : List Int) (hl : l.length ≤ 4611686018427387904) {k : Nat} (hk : l.length < k) : spec_l05Sum.f k l = some (wsum 0 l) := by
  unfold spec_l05Sum.f
  have := specSum_l0 l hl l.length k 0 0 (by omega) hk
  simpa using this
theorem total_l0 (l : List Int) (hl : l.length ≤ 4611686018427387904) : ∀ (d k n : Nat) (a : Int), n + d = l.length → d < k → impl_total.l0 k a l (l.length : Int) n = some (wsum a (l.drop n))
  | 0, k, n, a, hd, hk => by
    obtain ⟨k, rfl⟩ := some_k hk
    simp only [impl_total.l0]
    rw [if_neg (by omega), List.drop_eq_nil_of_le (by omega)]
    rfl
  | d + 1, k, n, a, hd, hk => by
    obtain ⟨k, rfl⟩ := some_k hk
    simp only [impl_total.l0]
    rw [if_pos (by omega), if_pos (by omega), if_pos (by omega), wrap_succ n (by omega), total_l0 l hl d k (n + 1) _ (by omega) (by omega), drop_cons l n (by omega)]
    rfl
theorem total_eq (l : List Int) (hl : l.length ≤ 4611686018427387904) {k : Nat} (hk : l.length < k) : impl_total.f k l = some (wsum 0 l) := by
  unfold impl_total.f
  have := total_l0 l hl l.length k 0 0 (by omega) hk
  simpa using this
/-- The places ahead of which a chisel is sharpened: what has been used, which place is next. -/
def shp (a used : Int) (i : Nat) : List Int → List Int
  | [] => []
  | x :: l => if wrap64 (used + x) > wrap64 a then (i : Int) :: shp a (wrap64 (0 + x)) (i + 1) l else shp a (wrap64 (used + x)) (i + 1) l
/-- Behind how many minutes each letter is cut. -/
def tms (a b time used : Int) : List Int → List Int
  | [] => []
  | x :: l => if wrap64 (used + x) > wrap64 a then wrap64 (wrap64 (time + wrap64 b) + x) :: tms a b (wrap64 (wrap64 (time + wrap64 b) + x)) (wrap64 (0 + x)) l else wrap64 (time + x) :: tms a b (wrap64 (time + x)) (wrap64 (used + x)) l
theorem shp_len (a : Int) (l : List Int) : ∀ (used : Int) (i : Nat), (shp a used i l).length ≤ l.length := by
  induction l with
  | nil => intro used i; simp [shp]
  | cons x l ih =>
    intro used i
    unfold shp
    split
    · have := ih (wrap64 (0 + x)) (i + 1); simp only [List.length_cons]; omega
    · have := ih (wrap64 (used + x)) (i + 1); simp only [List.length_cons]; omega
theorem tms_len (a b : Int) (l : List Int) : ∀ (time used : Int), (tms a b time used l).length = l.length := by
  induction l with
  | nil => intro time used; simp [tms]
  | cons x l ih =>
    intro time used
    unfold tms
    split <;> simp [ih]
theorem sharpens_l0 (a b : Int) (l : List Int) (hl : l.length ≤ 1000) : ∀ (d k n : Nat) (acc : List Int) (used : Int), n + d = l.length → d < k → acc.length ≤ n →
    spec_l05Sharpens.l0 k l acc used n a b = some (acc ++ shp a used n (l.drop n), a, b)
  | 0, k, n, acc, used, hd, hk, ha => by
    obtain ⟨k, rfl⟩ := some_k hk
    simp only [spec_l05Sharpens.l0]
    rw [if_neg (by omega), List.drop_eq_nil_of_le (by omega)]
    simp [shp]
  | d + 1, k, n, acc, used, hd, hk, ha => by
    obtain ⟨k, rfl⟩ := some_k hk
    simp only [spec_l05Sharpens.l0]
    rw [if_pos (by omega), if_pos (by omega), wrap_succ n (by omega), drop_cons l n (by omega)]
    by_cases h : wrap64 (used + rd l n) > wrap64 a
    · rw [if_pos h, if_pos (by omega), sharpens_l0 a b l hl d k (n + 1) _ _ (by omega) (by omega) (by simp; omega)]
      simp only [shp, if_pos h, List.append_assoc, List.singleton_append]
    · rw [if_neg h, sharpens_l0 a b l hl d k (n + 1) _ _ (by omega) (by omega) (by omega)]
      simp only [shp, if_neg h]
theorem sharpens_eq (a b : Int) (l : List Int) (hl : l.length ≤ 1000) {k : Nat} (hk : l.length < k) : spec_l05Sharpens.f k a b l = some (shp a 0 0 l, a, b) := by
  unfold spec_l05Sharpens.f
  have := sharpens_l0 a b l hl l.length k 0 [] 0 (by omega) hk (by simp)
  simpa using this
theorem cut_l0 (a b : Int) (l : List Int) (hl : l.length ≤ 1000) : ∀ (d k n : Nat) (ts acc : List Int) (time used : Int), n + d = l.length → d < k → acc.length ≤ n → ts.length ≤ n →
    impl_Chisel_cut.l0 k ts acc time used l (l.length : Int) n a b = some (ts ++ tms a b time used (l.drop n), acc ++ shp a used n (l.drop n))
  | 0, k, n, ts, acc, time, used, hd, hk, ha, ht => by
    obtain ⟨k, rfl⟩ := some_k hk
    simp only [impl_Chisel_cut.l0]
    rw [if_neg (by omega), List.drop_eq_nil_of_le (by omega)]
    simp [shp, tms]
  | d + 1, k, n, ts, acc, time, used, hd, hk, ha, ht => by
    obtain ⟨k, rfl⟩ := some_k hk
    simp only [impl_Chisel_cut.l0]
    rw [if_pos (by omega), if_pos (by omega), if_pos (by omega), wrap_succ n (by omega), drop_cons l n (by omega)]
    by_cases h : wrap64 (used + rd l n) > wrap64 a
    · rw [if_pos h, if_pos (by omega), if_pos (by omega), cut_l0 a b l hl d k (n + 1) _ _ _ _ (by omega) (by omega) (by simp; omega) (by simp; omega)]
      simp only [shp, tms, if_pos h, List.append_assoc, List.singleton_append]
    · rw [if_neg h, if_pos (by omega), cut_l0 a b l hl d k (n + 1) _ _ _ _ (by omega) (by omega) (by omega) (by simp; omega)]
      simp only [shp, tms, if_neg h, List.append_assoc, List.singleton_append]
theorem cut_eq (a b : Int) (l : List Int) (hl : l.length ≤ 1000) {k : Nat} (hk : l.length < k) : impl_Chisel_cut.f k a b l = some (tms a b 0 0 l, shp a 0 0 l) := by
  unfold impl_Chisel_cut.f
  have := cut_l0 a b l hl l.length k 0 [] [] 0 0 (by omega) hk (by simp) (by simp)
  simpa using this
/-- The minutes for letters in an order. -/
def minC (a b : Int) (l : List Int) : Int := wrap64 (wsum 0 l + wrap64 (((shp a 0 0 l).length : Int) * wrap64 b))
theorem minutes_eq (a b : Int) (l : List Int) (hl : l.length ≤ 1000) {k : Nat} (hk : l.length < k) : impl_Chisel_minutes.f k a b l = some (minC a b l) := by
  unfold impl_Chisel_minutes.f impl_size_int64.f minC
  rw [cut_eq a b l hl hk, Option.bind_some, total_eq l (by omega) hk]
  rfl
end Go.Proofs.YthdoeefaibeodaaDoor.Pure
