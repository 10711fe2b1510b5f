/- FewestLate: the plain law. -/
import Derived.Test.YtgfjmamjfkcmbaaQ34
import Derived.Test.YtgfjmamjfkcmbaaPureLate
import Derived.Test.YtgfjmamjfkcmbaaExtD
namespace Go.Proofs.Ytgfjmamjfkcmbaa.Pure
open Go.RowKit Go.Proofs.YtgfjmamjfkcmbaaW.PrintWords Go.Proofs.YtgfjmamjfkcmbaaW.PrintMore Go.Proofs.Ytgfjmamjfkcmbaa.Q Go.Proofs.Ytgfjmamjfkcmbaa.Ext
set_option linter.unusedVariables false
set_option linter.unusedSimpArgs false

theorem has_l0 (l : List Int) (x : Int) (hl : l.length ≤ 1048576) : ∀ (d k n : Nat), n + d = l.length → d < k → spec_l00Has.l0 k l x n = some ((l.drop n).any (fun y => x == y))
  | 0, k, n, hd, hk => by
    obtain ⟨k, rfl⟩ := some_k hk
    simp only [spec_l00Has.l0]
    rw [if_neg (by omega), List.drop_eq_nil_of_le (by omega)]
    rfl
  | d + 1, k, n, hd, hk => by
    obtain ⟨k, rfl⟩ := some_k hk
    simp only [spec_l00Has.l0]
    rw [if_pos (by omega), if_pos (by omega), drop_cons l n (by omega), List.any_cons]
    by_cases h : rd l n = x
    · rw [if_pos h, h]
      simp
    · rw [if_neg h, wrap_succ n (by omega), has_l0 l x hl d k (n + 1) (by omega) (by omega)]
      have : (x == rd l n) = false := by rw [beq_eq_false_iff_ne]; exact fun e => h e.symm
      rw [this, Bool.false_or]
theorem has_eq {k : Nat} (l : List Int) (x : Int) (hl : l.length ≤ 1048576) (hk : l.length < k) : spec_l00Has.f k l x = some (l.any (fun y => x == y)) := by
  have := has_l0 l x hl l.length k 0 (by omega) hk
  simpa [spec_l00Has.f] using this
theorem own_eq (l : List Int) (hl : l.length ≤ 1048576) : spec_l00Own.f l = some l := by
  unfold spec_l00Own.f
  rw [Option.bind_some, if_pos (by simp; omega), List.nil_append]

/-! ### All orders -/
def stepO (n : Nat) (f : List Int → List (List Int)) (o : List Int) (acc : List (List Int)) (i : Nat) : List (List Int) := if o.any (fun y => (i : Int) == y) then acc else acc ++ f (o ++ [(i : Int)])
def ordersM (n : Nat) : Nat → List Int → List (List Int)
  | 0, o => [o]
  | r + 1, o => (List.range n).foldl (stepO n (ordersM n r) o) []
def ordP (n r : Nat) (o : List Int) (i : Nat) : List (List Int) := (List.range i).foldl (stepO n (ordersM n r) o) []
theorem ordP_zero (n r : Nat) (o : List Int) : ordP n r o 0 = [] := rfl
theorem ordP_succ (n r : Nat) (o : List Int) (i : Nat) : ordP n r o (i + 1) = if o.any (fun y => (i : Int) == y) then ordP n r o i else ordP n r o i ++ ordersM n r (o ++ [(i : Int)]) := fold_succ _ _ _
theorem ordersM_succ (n r : Nat) (o : List Int) : ordersM n (r + 1) o = ordP n r o n := rfl
theorem orders_len (n : Nat) (hn : n ≤ 7) : ∀ (r : Nat) (o : List Int), (ordersM n r o).length ≤ 7 ^ r
  | 0, o => by simp [ordersM]
  | r + 1, o => by
    have h : ∀ i, (ordP n r o i).length ≤ i * 7 ^ r := by
      intro i
      induction i with
      | zero => simp [ordP]
      | succ i ih =>
        rw [ordP_succ]
        have := orders_len n hn r (o ++ [(i : Int)])
        split
        · exact Nat.le_trans ih (Nat.mul_le_mul_right _ (by omega))
        · rw [List.length_append, Nat.succ_mul]; omega
    rw [ordersM_succ]
    refine Nat.le_trans (h n) ?_
    rw [Nat.pow_succ, Nat.mul_comm]
    exact Nat.mul_le_mul_left _ hn
theorem ordP_len (n : Nat) (hn : n ≤ 7) (r : Nat) (o : List Int) (i : Nat) : (ordP n r o i).length ≤ i * 7 ^ r := by
  induction i with
  | zero => simp [ordP]
  | succ i ih =>
    rw [ordP_succ]
    have := orders_len n hn r (o ++ [(i : Int)])
    split
    · exact Nat.le_trans ih (Nat.mul_le_mul_right _ (by omega))
    · rw [List.length_append, Nat.succ_mul]; omega
theorem pow7 (r : Nat) (h : r ≤ 7) : 7 ^ r ≤ 823543 := by
  have := Nat.pow_le_pow_right (show 0 < 7 by decide) h
  exact this
/-- All of them are orders of n lines. -/
theorem orders_mem (n : Nat) : ∀ (r : Nat) (o : List Int), inds o n → ∀ x ∈ ordersM n r o, inds x n ∧ x.length = o.length + r
  | 0, o, ho, x, hx => by
    obtain rfl := List.mem_singleton.1 hx
    exact ⟨ho, rfl⟩
  | r + 1, o, ho, x, hx => by
    have h : ∀ i, i ≤ n → ∀ x ∈ ordP n r o i, inds x n ∧ x.length = o.length + (r + 1) := by
      intro i
      induction i with
      | zero => intro _ x hx; simp [ordP] at hx
      | succ i ih =>
        intro hi x hx
        rw [ordP_succ] at hx
        split at hx
        · exact ih (by omega) x hx
        · rcases List.mem_append.1 hx with h1 | h1
          · exact ih (by omega) x h1
          · obtain ⟨a, b⟩ := orders_mem n r _ (inds_snoc ho (show i < n by omega)) x h1
            refine ⟨a, ?_⟩
            rw [b, List.length_append]; simp; omega
    exact h n (Nat.le_refl _) x hx
/-- As many numbers as there are need as many places. -/
theorem pigeon : ∀ (n : Nat) (o : List Int), (∀ i, i < n → (i : Int) ∈ o) → n ≤ o.length
  | 0, _, _ => Nat.zero_le _
  | n + 1, o, h => by
    have h1 := h n (by omega)
    have h2 := pigeon n (o.erase (n : Int)) (fun i hi => (List.mem_erase_of_ne (by omega)).2 (h i (by omega)))
    rw [List.length_erase_of_mem h1] at h2
    have := List.length_pos_of_mem h1
    omega
theorem any_mem (o : List Int) (x : Int) : o.any (fun y => x == y) = true ↔ x ∈ o := by
  rw [List.any_eq_true]
  constructor
  · rintro ⟨y, hy, e⟩
    rw [beq_iff_eq.1 e]; exact hy
  · intro h
    exact ⟨x, h, by simp⟩
theorem orders_pos (n : Nat) : ∀ (r : Nat) (o : List Int), o.length + r = n → 0 < (ordersM n r o).length
  | 0, o, _ => by simp [ordersM]
  | r + 1, o, h => by
    have hex : ∃ i, i < n ∧ ¬ (i : Int) ∈ o := by
      apply Classical.byContradiction
      intro hno
      have := pigeon n o (fun i hi => Classical.byContradiction fun hc => hno ⟨i, hi, hc⟩)
      omega
    obtain ⟨i, hi, hni⟩ := hex
    have hP : ∀ m, i < m → 0 < (ordP n r o m).length := by
      intro m
      induction m with
      | zero => intro h; omega
      | succ m ih =>
        intro hm
        rw [ordP_succ]
        by_cases e : i = m
        · subst e
          rw [if_neg (by rw [any_mem]; exact hni), List.length_append]
          have := orders_pos n r (o ++ [(i : Int)]) (by simp; omega)
          omega
        · have := ih (by omega)
          split
          · exact this
          · rw [List.length_append]; omega
    exact hP n hi
mutual
theorem orders_eq (n : Nat) (hn : n ≤ 7) : ∀ (r k : Nat) (o : List Int), o.length + r = n → 20 * (r + 1) ≤ k → spec_l05Orders.f k n o = some (ordersM n r o)
  | 0, k, o, ho, hk => by
    obtain ⟨k, rfl⟩ := some_k (show 0 < k by omega)
    simp only [spec_l05Orders.f]
    rw [if_pos (by omega), own_eq o (by omega)]
    rfl
  | r + 1, k, o, ho, hk => by
    obtain ⟨k, rfl⟩ := some_k (show 0 < k by omega)
    simp only [spec_l05Orders.f]
    rw [if_neg (by omega)]
    have := orders_l0 n hn r n k 0 o (by omega) (by omega) (by omega)
    rw [ordP_zero] at this
    exact this
  termination_by r => (r, 0)
theorem orders_l0 (n : Nat) (hn : n ≤ 7) (r : Nat) : ∀ (d k i : Nat) (o : List Int), o.length + (r + 1) = n → i + d = n → 20 * (r + 1) + 10 + d ≤ k → spec_l05Orders.l0 k n o (ordP n r o i) i = some (ordersM n (r + 1) o)
  | 0, k, i, o, ho, hd, hk => by
    obtain ⟨k, rfl⟩ := some_k (show 0 < k by omega)
    simp only [spec_l05Orders.l0]
    obtain rfl : i = n := by omega
    rw [if_neg (by omega), ordersM_succ]
  | d + 1, k, i, o, ho, hd, hk => by
    obtain ⟨k, rfl⟩ := some_k (show 0 < k by omega)
    simp only [spec_l05Orders.l0]
    rw [if_pos (by omega), has_eq o i (by omega) (by omega)]
    simp only [Option.bind_some]
    have hs := ordP_succ n r o i
    by_cases h : (o.any fun y => (i : Int) == y) = true
    · rw [if_pos h] at hs
      rw [if_pos h, wrap_succ i (by omega), ← hs]
      exact orders_l0 n hn r d k (i + 1) o ho (by omega) (by omega)
    · rw [if_neg h] at hs
      have h1 := ordP_len n hn r o i
      have h2 := orders_len n hn r (o ++ [(i : Int)])
      have h3 := pow7 r (by omega)
      have h4 : i * 7 ^ r ≤ 7 * 823543 := Nat.mul_le_mul (by omega) h3
      rw [if_neg h, own_eq o (by omega)]
      simp only [Option.bind_some]
      rw [if_pos (by omega), orders_eq n hn r k (o ++ [(i : Int)]) (by simp; omega) (by omega)]
      simp only [Option.bind_some]
      rw [if_pos (by omega), wrap_succ i (by omega), ← hs]
      exact orders_l0 n hn r d k (i + 1) o ho (by omega) (by omega)
  termination_by d => (r, d + 1)
end
/-! ### The choice -/
def updG (t d : List Int) (σ : List Int × Int) (o : List Int) : List Int × Int := updF t d o σ
theorem choose_eq (t d : List Int) : ∀ (r : Nat) (o : List Int) (σ : List Int × Int), chooseM t d r o σ = (ordersM t.length r o).foldl (updG t d) σ
  | 0, o, σ => rfl
  | r + 1, o, σ => by
    rw [chooseM_succ, ordersM_succ]
    have h : ∀ i, (List.range i).foldl (stepF t d r o) σ = (ordP t.length r o i).foldl (updG t d) σ := by
      intro i
      induction i with
      | zero => rfl
      | succ i ih =>
        rw [fold_succ, ih, ordP_succ]
        unfold stepF
        split
        · rfl
        · rw [choose_eq t d r, List.foldl_append]
    exact h t.length
theorem few_l0 (t d : List Int) (all : List (List Int)) (hn : t.length ≤ 7) (hd : t.length = d.length) (ha : ∀ x ∈ all, inds x t.length ∧ x.length = t.length) (hal : all.length ≤ 1048576) :
    ∀ (m k j : Nat) (b : List Int) (f : Int), j + m = all.length → m + 10 < k → 0 ≤ f → spec_FewestLate.l0 k t d all b f j = some (((all.drop j).foldl (updG t d) (b, f)).1, ((all.drop j).foldl (updG t d) (b, f)).2, 0)
  | 0, k, j, b, f, hm, hk, hf => by
    obtain ⟨k, rfl⟩ := some_k (show 0 < k by omega)
    simp only [spec_FewestLate.l0]
    rw [if_neg (by omega), List.drop_eq_nil_of_le (by omega)]
    rfl
  | m + 1, k, j, b, f, hm, hk, hf => by
    obtain ⟨k, rfl⟩ := some_k (show 0 < k by omega)
    simp only [spec_FewestLate.l0]
    have hj : j < all.length := by omega
    have e : rd_L1 all j = all[j] := by simp [rd_L1, List.getD_eq_getElem?_getD, List.getElem?_eq_getElem hj]
    have hmem : all[j] ∈ all := List.getElem_mem hj
    obtain ⟨h1, h2⟩ := ha _ hmem
    rw [if_pos (by omega), if_pos (by omega), e, spec_late_eq t d _ (by omega) h1 (by rw [← hd]; exact h1) (by omega)]
    simp only [Option.bind_some]
    rw [List.drop_eq_getElem_cons hj, List.foldl_cons]
    generalize all[j] = o
    by_cases hlt : ((lateL t d 0 o).length : Int) < f
    · rw [if_pos hlt, wrap_succ j (by omega), few_l0 t d all hn hd ha hal m k (j + 1) _ _ (by omega) (by omega) (by omega)]
      rw [show updG t d (b, f) o = (o, ((lateL t d 0 o).length : Int)) from if_pos (Or.inr hlt)]
    · rw [if_neg hlt, wrap_succ j (by omega), few_l0 t d all hn hd ha hal m k (j + 1) _ _ (by omega) (by omega) (by omega)]
      rw [show updG t d (b, f) o = (b, f) from if_neg (by rintro (h | h); exact absurd h (by simp; omega); exact hlt h)]
theorem first_eq (t d o : List Int) : updG t d ([], -1) o = (o, ((lateL t d 0 o).length : Int)) := by
  unfold updG updF
  exact if_pos (Or.inl (show (-1 : Int) < 0 by decide))
theorem spec_few_eq {k : Nat} (t d : List Int) (hl : t.length ≤ 1048576) (hl2 : d.length ≤ 1048576) (hk : t.length + d.length + 1000000 < k) : spec_FewestLate.f k t d = some (fewC t d) := by
  unfold spec_FewestLate.f fewC
  rw [dues_eq t d hl2 (by omega)]
  simp only [Option.bind_some]
  rw [spec_times_eq t _ 7 (by omega) hl (by omega)]
  simp only [Option.bind_some]
  by_cases hz : timesC (duesB t d) t 7 = 0
  · obtain ⟨hb, _, h7⟩ := timesC_zero hz
    have hdl := duesB_len hb
    have h7' : t.length ≤ 7 := by omega
    rw [if_pos hz, if_pos hz, orders_eq t.length h7' t.length k [] (by simp) (by omega), choose_eq]
    simp only [Option.bind_some]
    have hm := orders_mem t.length t.length [] (fun x hx => absurd hx (by simp))
    have hp := orders_pos t.length t.length [] (by simp)
    have hlen := orders_len t.length h7' t.length []
    have h3 := pow7 t.length h7'
    simp only [List.length_nil, Nat.zero_add] at hm
    generalize ordersM t.length t.length [] = all at hm hp hlen
    rw [if_pos (by omega)]
    cases all with
    | nil => simp at hp
    | cons o os =>
      obtain ⟨h1, h2⟩ := hm o (List.mem_cons_self ..)
      have e : rd_L1 (o :: os) 0 = o := rfl
      rw [e, spec_late_eq t d _ (by omega) h1 (by rw [← hdl]; exact h1) (by omega)]
      simp only [Option.bind_some]
      have := few_l0 t d (o :: os) h7' hdl hm (by omega) os.length k 1 o ((lateL t d 0 o).length : Int) (by simp; omega) (by simp at hlen; omega) (by omega)
      rw [show ((1 : Nat) : Int) = 1 from rfl] at this
      rw [this]
      rw [List.foldl_cons, show updG t d ([], -1) o = (o, ((lateL t d 0 o).length : Int)) from first_eq t d o]
      rfl
  · rw [if_neg hz, if_neg hz]
theorem chooseM_len (t d : List Int) : ∀ (r : Nat) (o : List Int) (σ : List Int × Int), o.length + r = t.length → σ.1.length ≤ t.length → (chooseM t d r o σ).1.length ≤ t.length
  | 0, o, σ, h, hs => by
    show (updF t d o σ).1.length ≤ _
    unfold updF
    split
    · simp; omega
    · exact hs
  | r + 1, o, σ, h, hs => by
    rw [chooseM_succ]
    have hi : ∀ i, ((List.range i).foldl (stepF t d r o) σ).1.length ≤ t.length := by
      intro i
      induction i with
      | zero => exact hs
      | succ i ih =>
        rw [fold_succ]
        unfold stepF
        split
        · exact ih
        · exact chooseM_len t d r _ _ (by simp; omega) ih
    exact hi _
theorem fewC_len (t d : List Int) : (fewC t d).1.length ≤ t.length := by
  unfold fewC
  split
  · exact chooseM_len t d t.length [] ([], -1) (by simp) (by simp)
  · simp
end Go.Proofs.Ytgfjmamjfkcmbaa.Pure
