/- The plain law of ShareLines. -/
import Derived.Test.YtgfjmamjfkcmbaaPureLines
import Derived.Test.YtgfjmamjfkcmbaaQ31
namespace Go.Proofs.Ytgfjmamjfkcmbaa.Pure
open Go.RowKit Go.Proofs.Ytgfjmamjfkcmbaa.Ext Go.Proofs.Ytgfjmamjfkcmbaa.Q Go.Proofs.YtgfjmamjfkcmbaaW.PrintWords Go.Proofs.YtgfjmamjfkcmbaaW.PrintLast Go.Proofs.YtgfjmamjfkcmbaaW.PrintMore
set_option linter.unusedVariables false
set_option linter.unusedSimpArgs false
theorem times_mem {l : List Int} (h : timesB l = true) : ∀ x ∈ l, 1 ≤ x ∧ x ≤ 100000 := fun x hx => inB_iff.1 (List.all_eq_true.1 h x hx)
/-- The least most: the search by halves. -/
theorem lines_l0 (t : List Int) (n : Int) (mx0 : Int) (hb : timesB t = true) (hl : t.length ≤ 12) (hp : 0 < t.length) : ∀ (d k : Nat) (lo hi : Int), hi - lo ≤ d → d + t.length + 2 < k → 0 ≤ mx0 → mx0 ≤ lo → lo ≤ hi → hi ≤ 1200000 → lastI hi 0 0 t < n → (∀ v, mx0 ≤ v → v < lo → ¬ lastI v 0 0 t < n) →
    ∃ M, impl_ShareLines.l0 k t n lo hi = some (greedyI M 0 0 t, M, 0) ∧ mx0 ≤ M ∧ lastI M 0 0 t < n ∧ ∀ v, mx0 ≤ v → v < M → ¬ lastI v 0 0 t < n := by
  intro d
  induction d with
  | zero =>
    intro k lo hi hd hk h0 hm hlh hh hf hn
    obtain ⟨k, rfl⟩ := some_k (show 0 < k by omega)
    obtain rfl : lo = hi := by omega
    refine ⟨lo, ?_, hm, hf, hn⟩
    simp only [impl_ShareLines.l0]
    rw [if_neg (by omega), order_eq t lo hb hl (by omega)]
    rfl
  | succ d ih =>
    intro k lo hi hd hk h0 hm hlh hh hf hn
    by_cases e : lo < hi
    · obtain ⟨k, rfl⟩ := some_k (show 0 < k by omega)
      simp only [impl_ShareLines.l0]
      obtain ⟨mid, hmid⟩ : ∃ mid, (lo + hi) / 2 = mid := ⟨_, rfl⟩
      have hmm : wrap64 (Int.tdiv (wrap64 (lo + hi)) 2) = mid := by
        rw [w64 (x := lo + hi) (by omega) (by omega), Int.tdiv_eq_ediv_of_nonneg (by omega), hmid, w64 (by omega) (by omega)]
      rw [if_pos e, hmm, order_eq t mid hb hl (by omega)]
      simp only [Option.bind_some, greedyI_len]
      have hlen : wrap64 ((t.length : Int) - 1) = ((t.length - 1 : Nat) : Int) := by rw [w64 (by omega) (by omega)]; omega
      rw [hlen, if_pos (by omega), if_pos (by omega), greedyI_last _ _ _ _ hp]
      by_cases c : lastI mid 0 0 t < n
      · rw [if_pos c]
        exact ih k lo mid (by omega) (by omega) h0 hm (by omega) (by omega) c hn
      · rw [if_neg c, w64 (by omega) (by omega)]
        refine ih k (mid + 1) hi (by omega) (by omega) h0 (by omega) (by omega) hh hf (fun v hv1 hv2 hv3 => c ?_)
        have := last_mono v mid (by omega) t 0 0 0 0 (fun x hx => by have := times_mem hb x hx; omega) (by omega) (by unfold lexle; omega)
        omega
    · obtain ⟨k, rfl⟩ := some_k (show 0 < k by omega)
      obtain rfl : lo = hi := by omega
      refine ⟨lo, ?_, hm, hf, hn⟩
      simp only [impl_ShareLines.l0]
      rw [if_neg (by omega), order_eq t lo hb hl (by omega)]
      rfl
theorem foldMax_le_sum (t : List Int) (hb : timesB t = true) (hp : 0 < t.length) : 0 ≤ foldMax t ∧ foldMax t ≤ sumL t := by
  obtain ⟨h1, h2⟩ := foldMax_spec t hp
  have h3 := times_mem hb
  refine ⟨by have := h3 _ h1; omega, ?_⟩
  have : ∀ (l : List Int), (∀ x ∈ l, 0 ≤ x) → 0 ≤ sumL l ∧ ∀ x ∈ l, x ≤ sumL l := by
    intro l
    induction l with
    | nil => intro _; exact ⟨by simp [sumL], fun x hx => absurd hx (by simp)⟩
    | cons y ys ih =>
      intro hy
      obtain ⟨a, b⟩ := ih (fun x hx => hy x (List.mem_cons_of_mem _ hx))
      have := hy y (List.mem_cons_self ..)
      rw [sumL]
      refine ⟨by omega, fun x hx => ?_⟩
      rcases List.mem_cons.1 hx with e | e
      · subst e; omega
      · have := b x e; omega
  exact (this t (fun x hx => by have := h3 x hx; omega)).2 _ h1
theorem impl_lines_eq {k : Nat} (t : List Int) (n : Int) (hz : timesC (inB n 1 6) t 12 = 0) (hp : 0 < t.length) (hk : 1200100 < k) :
    ∃ M, impl_ShareLines.f k t n = some (greedyI M 0 0 t, M, 0) ∧ foldMax t ≤ M ∧ lastI M 0 0 t < n ∧ ∀ v, foldMax t ≤ v → v < M → ¬ lastI v 0 0 t < n := by
  obtain ⟨hin, hb, hl⟩ := timesC_zero hz
  obtain ⟨hn1, hn2⟩ := inB_iff.1 hin
  have hs := sumL_bd t hb
  have hm := foldMax_le_sum t hb hp
  have hf : lastI (sumL t) 0 0 t < n := by
    rw [last_one (sumL t) t 0 0 (fun x hx => by have := times_mem hb x hx; omega) (by omega)]
    omega
  obtain ⟨M, h1, h2, h3, h4⟩ := lines_l0 t n (foldMax t) hb (by omega) hp 1200000 k (foldMax t) (sumL t) (by omega) (by omega) hm.1 (Int.le_refl _) hm.2 (by omega) hf (fun v a b => by omega)
  refine ⟨M, ?_, h2, h3, h4⟩
  unfold impl_ShareLines.f
  rw [impl_times_eq, hz, Option.bind_some, if_pos rfl, if_neg (by omega)]
  unfold slices_Max_int64_int64.f
  rw [if_pos hp]
  simp only [Option.bind_some]
  rw [total_eq t hb (by omega) (by omega)]
  exact h1
theorem spec_lines_eq {k : Nat} (t : List Int) (n M : Int) (hz : timesC (inB n 1 6) t 12 = 0) (hp : 0 < t.length) (hk : t.length < k) (h1 : foldMax t ≤ M) (h2 : lastI M 0 0 t < n) (h3 : ∀ v, foldMax t ≤ v → v < M → ¬ lastI v 0 0 t < n) : spec_ShareLines.f k t n = some (greedyI M 0 0 t, M, 0) := by
  obtain ⟨hin, hb, hl⟩ := timesC_zero hz
  obtain ⟨hn1, hn2⟩ := inB_iff.1 hin
  unfold spec_ShareLines.f
  rw [cutters_eq]
  simp only [Option.bind_some]
  rw [spec_times_eq t _ 12 (by omega) (by omega) hk]
  simp only [Option.bind_some]
  rw [if_pos hz]
  unfold spec_l05Shared.f
  rw [if_pos ⟨by omega, by omega, by omega⟩]
  obtain ⟨cut, rfl⟩ := Int.eq_ofNat_of_zero_le (show 0 ≤ n by omega)
  rw [Int.toNat_natCast]
  have hmx := foldMax_spec t hp
  have hm0 := foldMax_le_sum t hb hp
  have htm := times_mem hb
  have e0 : (fun (q : Nat) => rd (List.replicate cut (0 : Int)) (q : Int)) = fun _ => 0 := by
    funext q
    simp [rd, List.getD_eq_getElem?_getD, List.getElem?_replicate]
    split <;> rfl
  have hg : giveC t cut true = (greedyI M 0 0 t, M) := by
    unfold giveC
    rw [give_srch t cut true hb (by omega) t.length [] (List.replicate cut 0) 0 ([], -1) (by simp) (by simp) (by
      intro k hk
      have : rd (List.replicate cut (0 : Int)) (k : Int) = 0 := congrFun e0 k
      rw [this]; simp), e0]
    have := srch_greedy cut M t [] (fun _ => 0) 0 ([], -1) 0 (by unfold fromG; simp) (by omega) (fun x hx => ⟨by have := htm x hx; omega, by have := hmx.2 x hx; omega⟩) (Int.le_refl _) (by omega) (fun k hk => rfl)
      (fun v hv => by
        apply Classical.byContradiction
        intro hlt
        have ha := reach_mx cut true v t 0 (fun _ => 0) 0 (fun x hx => by have := htm x hx; omega) (fun _ => Int.le_refl _) hv
        exact h3 v (ha _ hmx.1) (by omega) (reach_feas cut v t 0 (fun _ => 0) 0 0 0 (fun x hx => by have := htm x hx; omega) (by omega) (fun _ => Int.le_refl _) (fun _ _ => rfl) (by unfold lexle; simp) hv))
      h2 (Or.inl (show (-1 : Int) < 0 by decide))
    simpa using this
  rw [hg]
  rfl
theorem lines_same (t : List Int) (n : Int) (hl : t.length ≤ 1048576) : ∃ r : List Int × Int × Int, r.1.length ≤ t.length ∧ (∀ k, t.length + 1200200 < k → spec_ShareLines.f k t n = some r) ∧ (∀ k, t.length + 1200200 < k → impl_ShareLines.f k t n = some r) := by
  by_cases hz : timesC (inB n 1 6) t 12 = 0
  · obtain ⟨hin, hb, hl12⟩ := timesC_zero hz
    obtain ⟨hn1, hn2⟩ := inB_iff.1 hin
    by_cases hp : 0 < t.length
    · obtain ⟨M, _, h1, h2, h3⟩ := impl_lines_eq (k := t.length + 1200201) t n hz hp (by omega)
      refine ⟨(greedyI M 0 0 t, M, 0), by rw [greedyI_len]; exact Nat.le_refl _, fun k hk => spec_lines_eq t n M hz hp (by omega) h1 h2 h3, fun k hk => ?_⟩
      obtain ⟨M', e, h1', h2', h3'⟩ := impl_lines_eq (k := k) t n hz hp (by omega)
      have : M' = M := by
        rcases Int.lt_trichotomy M' M with h | h | h
        · exact absurd h2' (h3 M' h1' h)
        · exact h
        · exact absurd h2 (h3' M h1 h)
      rw [e, this]
    · have : t = [] := List.length_eq_zero_iff.1 (by omega)
      subst this
      refine ⟨([], 0, 0), by simp, fun k hk => ?_, fun k hk => ?_⟩
      · unfold spec_ShareLines.f
        rw [cutters_eq]
        simp only [Option.bind_some]
        rw [spec_times_eq [] _ 12 (by omega) (by simp) (by simp; omega)]
        simp only [Option.bind_some]
        rw [if_pos hz]
        unfold spec_l05Shared.f
        rw [if_pos ⟨by omega, by omega, by simp⟩]
        rfl
      · unfold impl_ShareLines.f
        rw [impl_times_eq, hz, Option.bind_some, if_pos rfl, if_pos (by simp)]
  · refine ⟨([], 0, timesC (inB n 1 6) t 12), by simp, fun k hk => ?_, fun k hk => ?_⟩
    · unfold spec_ShareLines.f
      rw [cutters_eq]
      simp only [Option.bind_some]
      rw [spec_times_eq t _ 12 (by omega) hl (by omega)]
      simp only [Option.bind_some]
      rw [if_neg hz]
    · unfold impl_ShareLines.f
      rw [impl_times_eq]
      simp only [Option.bind_some]
      rw [if_neg hz]
theorem FnExactShareLines : laws_FnExactShareLines.Pure := by
  intro t n _ _ _ _
  refine ⟨t.length + 1200220, ?_⟩
  unfold laws_FnExactShareLines.f
  by_cases h : (t.length : Int) > 1048576
  · rw [if_pos h]
  · obtain ⟨r, hl, hs, hi⟩ := lines_same t n (by omega)
    rw [if_neg h]
    repeat (first | rw [toInt64S_eq (by omega) (by omega)] | rw [hs _ (by omega)] | rw [hi _ (by omega)] | rw [eqInt64S_self (by omega) (by omega)] | rw [markInt64S_eq (by omega) (by omega) (by omega) (by omega)] | rw [heldInt64S_eq (by omega) (by omega) (by omega) (by omega)] | simp only [Option.bind_some, if_true, bne_self_eq_false, Bool.false_eq_true, if_false, laws_FnExactShareLines.j0, laws_FnExactShareLines.j1, laws_FnExactShareLines.j2] | rw [if_neg (by omega)])
end Go.Proofs.Ytgfjmamjfkcmbaa.Pure
