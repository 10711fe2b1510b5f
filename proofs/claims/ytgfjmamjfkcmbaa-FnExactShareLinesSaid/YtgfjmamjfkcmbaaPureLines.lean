/- Sharing in order: the least most by halves, and the search that finds the same. -/
import Derived.Test.YtgfjmamjfkcmbaaPureShare
import Derived.Test.YtgfjmamjfkcmbaaPureOrder
import Derived.Test.YtgfjmamjfkcmbaaQ29
import Derived.Test.YtgfjmamjfkcmbaaQ28
import Derived.Test.YtgfjmamjfkcmbaaQ30
namespace Go.Proofs.Ytgfjmamjfkcmbaa.Pure
open Go.RowKit Go.Proofs.YtgfjmamjfkcmbaaW.PrintWords Go.Proofs.YtgfjmamjfkcmbaaW.PrintMore Go.Proofs.Ytgfjmamjfkcmbaa.Q Go.Proofs.Ytgfjmamjfkcmbaa.Ext
set_option linter.unusedVariables false
set_option linter.unusedSimpArgs false

/-! ### All of it together -/
def sumL : List Int → Int
  | [] => 0
  | x :: xs => x + sumL xs
theorem sumL_bd (l : List Int) (hb : timesB l = true) : 0 ≤ sumL l ∧ sumL l ≤ 100000 * l.length := by
  induction l with
  | nil => simp [sumL]
  | cons x xs ih =>
    have h : timesB xs = true ∧ inB x 1 100000 = true := by
      unfold timesB at hb ⊢
      rw [List.all_cons, Bool.and_eq_true] at hb
      exact ⟨hb.2, hb.1⟩
    obtain ⟨h1, h2⟩ := inB_iff.1 h.2
    have := ih h.1
    rw [sumL, List.length_cons]
    omega
theorem total_l0 (l : List Int) (hb : timesB l = true) (hl : l.length ≤ 12) : ∀ (d k n : Nat) (s : Int), n + d = l.length → d < k → 0 ≤ s → s ≤ 100000 * n → impl_total.l0 k s l l.length n = some (s + sumL (l.drop n))
  | 0, k, n, s, hd, hk, h0, h1 => by
    obtain ⟨k, rfl⟩ := some_k hk
    simp only [impl_total.l0]
    rw [if_neg (by omega), List.drop_eq_nil_of_le (by omega)]
    simp [sumL]
  | d + 1, k, n, s, hd, hk, h0, h1 => by
    obtain ⟨k, rfl⟩ := some_k hk
    simp only [impl_total.l0]
    have ht := times_rd hb n (by omega)
    rw [if_pos (by omega), if_pos (by omega), if_pos (by omega), wrap_succ n (by omega), w64 (by omega) (by omega), total_l0 l hb hl d k (n + 1) _ (by omega) (by omega) (by omega) (by omega), drop_cons l n (by omega), sumL]
    congr 1
    omega
theorem total_eq {k : Nat} (l : List Int) (hb : timesB l = true) (hl : l.length ≤ 12) (hk : l.length < k) : impl_total.f k l = some (sumL l) := by
  have := total_l0 l hb hl l.length k 0 0 (by omega) hk (by omega) (by omega)
  simpa [impl_total.f] using this

/-! ### Greedy stays ahead -/
def lexle (c' s' c s : Int) : Prop := c' < c ∨ (c' = c ∧ s' ≤ s)
theorem last_mono (m m' : Int) (hm : m ≤ m') : ∀ (xs : List Int) (c' s' c s : Int), (∀ x ∈ xs, 0 ≤ x) → 0 ≤ s → lexle c' s' c s → lastI m' c' s' xs ≤ lastI m c s xs
  | [], c', s', c, s, hx, h0, h => by unfold lastI; rcases h with h | h <;> omega
  | x :: xs, c', s', c, s, hx, h0, h => by
    have hx0 := hx x (List.mem_cons_self ..)
    have hxs := fun y hy => hx y (List.mem_cons_of_mem _ hy)
    rw [lastI, lastI]
    unfold lexle at h
    split <;> split
    · exact last_mono m m' hm xs _ _ _ _ hxs (by omega) (by unfold lexle; omega)
    · exact last_mono m m' hm xs _ _ _ _ hxs (by omega) (by unfold lexle; omega)
    · exact last_mono m m' hm xs _ _ _ _ hxs (by omega) (by unfold lexle; omega)
    · exact last_mono m m' hm xs _ _ _ _ hxs (by omega) (by unfold lexle; omega)
theorem last_one (m : Int) : ∀ (xs : List Int) (c s : Int), (∀ x ∈ xs, 0 ≤ x) → s + sumL xs ≤ m → lastI m c s xs = c
  | [], c, s, hx, h => rfl
  | x :: xs, c, s, hx, h => by
    have hxs := fun y hy => hx y (List.mem_cons_of_mem _ hy)
    have h0 : 0 ≤ sumL xs := by
      clear h hx
      induction xs with
      | nil => simp [sumL]
      | cons y ys ih => rw [sumL]; have := hxs y (List.mem_cons_self ..); have := ih (fun z hz => hxs z (List.mem_cons_of_mem _ hz)); omega
    rw [sumL] at h
    rw [lastI, if_neg (by omega)]
    exact last_one m xs c (s + x) hxs (by omega)
theorem last_lo (m : Int) : ∀ (xs : List Int) (c s : Int), c ≤ lastI m c s xs
  | [], c, s => Int.le_refl _
  | x :: xs, c, s => by
    rw [lastI]
    split
    · have := last_lo m xs (c + 1) x; omega
    · exact last_lo m xs c (s + x)
/-- What can be reached from somewhere can be kept by the greedy from a place that is no farther. -/
theorem reach_feas (cut : Nat) (v : Int) : ∀ (xs : List Int) (f : Nat) (s : Nat → Int) (m c' s' : Int), (∀ x ∈ xs, 0 ≤ x) → f < cut → (∀ k, 0 ≤ s k) → (∀ k, f < k → s k = 0) → lexle c' s' f (s f) → Reach cut true xs f s m v → lastI v c' s' xs < cut
  | [], f, s, m, c', s', hx, hf, h0, hz, h, hr => by unfold lastI; unfold lexle at h; omega
  | x :: xs, f, s, m, c', s', hx, hf, h0, hz, h, hr => by
    have hx0 := hx x (List.mem_cons_self ..)
    have hxs := fun y hy => hx y (List.mem_cons_of_mem _ hy)
    obtain ⟨k, hk1, hk2, hr⟩ := hr
    have hge := reach_ge _ _ _ _ _ _ _ hr
    have hmx := mxG_ge m (s k + x)
    have hz' : ∀ q, k < q → up s k (s k + x) q = 0 := fun q hq => by unfold up; rw [if_neg (by omega)]; exact hz q (by omega)
    have h0' : ∀ q, 0 ≤ up s k (s k + x) q := fun q => by unfold up; split; have := h0 k; omega; exact h0 q
    have hu : up s k (s k + x) k = s k + x := by unfold up; rw [if_pos rfl]
    have hr' : Reach cut true xs k (up s k (s k + x)) (mxG m (s k + x)) v := hr
    have hsk : f < k → s k = 0 := fun h => hz k h
    have hskf : k = f → s k = s f := fun h => by rw [h]
    have hf0 := h0 f
    unfold lexle at h
    rw [lastI]
    split
    · exact reach_feas cut v xs k _ _ _ _ hxs hk2 h0' hz' (by unfold lexle; rw [hu]; by_cases e : k = f; have := hskf e; omega; have := hsk (by omega); omega) hr'
    · exact reach_feas cut v xs k _ _ _ _ hxs hk2 h0' hz' (by unfold lexle; rw [hu]; by_cases e : k = f; have := hskf e; omega; have := hsk (by omega); omega) hr'
theorem reach_mx (cut : Nat) (rising : Bool) (v : Int) : ∀ (xs : List Int) (f : Nat) (s : Nat → Int) (m : Int), (∀ x ∈ xs, 0 ≤ x) → (∀ k, 0 ≤ s k) → Reach cut rising xs f s m v → ∀ x ∈ xs, x ≤ v
  | [], f, s, m, hx, h0, hr => fun x h => absurd h (by simp)
  | x :: xs, f, s, m, hx, h0, hr => by
    have hx0 := hx x (List.mem_cons_self ..)
    have hxs := fun y hy => hx y (List.mem_cons_of_mem _ hy)
    obtain ⟨k, hk1, hk2, hr⟩ := hr
    have hge := reach_ge _ _ _ _ _ _ _ hr
    have hmx := mxG_ge m (s k + x)
    have hk0 := h0 k
    intro y hy
    rcases List.mem_cons.1 hy with e | e
    · subst e; omega
    · exact reach_mx cut rising v xs _ _ _ hxs (fun q => by unfold up; split; omega; exact h0 q) hr y e
/-- The least behind a search is the one ahead or one that is reached. -/
theorem srch_val (cut : Nat) (rising : Bool) : ∀ (xs lst : List Int) (s : Nat → Int) (most : Int) (σ : List Int × Int), (srch cut rising xs lst s most σ).2 = σ.2 ∨ Reach cut rising xs (fromG rising lst) s most (srch cut rising xs lst s most σ).2
  | [], lst, s, most, σ => by
    unfold srch
    split
    · exact Or.inl rfl
    · exact Or.inr rfl
  | x :: xs, lst, s, most, σ => by
    rw [srch_cons]
    split
    · exact Or.inl rfl
    · have hi : ∀ i, i ≤ cut - fromG rising lst → ((List.range i).foldl (srchStep cut rising x xs lst s most) σ).2 = σ.2 ∨ Reach cut rising (x :: xs) (fromG rising lst) s most ((List.range i).foldl (srchStep cut rising x xs lst s most) σ).2 := by
        intro i
        induction i with
        | zero => intro _; exact Or.inl rfl
        | succ i ih =>
          intro hi
          rw [fold_succ]
          have h1 := ih (by omega)
          generalize (List.range i).foldl (srchStep cut rising x xs lst s most) σ = σi at h1
          unfold srchStep
          have h2 := srch_val cut rising xs (lst ++ [((fromG rising lst + i : Nat) : Int)]) (up s (fromG rising lst + i) (s (fromG rising lst + i) + x)) (mxG most (s (fromG rising lst + i) + x)) σi
          rcases h2 with h2 | h2
          · rw [h2]; exact h1
          · rw [fromG_snoc] at h2
            exact Or.inr ⟨fromG rising lst + i, by omega, by omega, h2⟩
      exact hi _ (Nat.le_refl _)
theorem srch_greedy (cut : Nat) (M : Int) : ∀ (xs lst : List Int) (s : Nat → Int) (most : Int) (σ : List Int × Int) (c : Nat), fromG true lst = c → c < cut → (∀ x ∈ xs, 0 ≤ x ∧ x ≤ M) → 0 ≤ most → most ≤ M → (∀ k, c < k → s k = 0) → (∀ v, Reach cut true xs c s most v → M ≤ v) →
    lastI M c (s c) xs < cut → (σ.2 < 0 ∨ M < σ.2) → srch cut true xs lst s most σ = (lst ++ greedyI M c (s c) xs, M)
  | [], lst, s, most, σ, c, hc, hcut, hx, h0, hm, hz, hr, hf, hσ => by
    unfold srch
    rw [if_neg (by omega)]
    have := hr most rfl
    have : most = M := by omega
    rw [this]
    simp [greedyI]
  | x :: xs, lst, s, most, σ, c, hc, hcut, hx, h0, hm, hz, hr, hf, hσ => by
    obtain ⟨hx0, hxM⟩ := hx x (List.mem_cons_self ..)
    have hxs := fun y hy => hx y (List.mem_cons_of_mem _ hy)
    rw [srch_cons, if_neg (by omega), hc]
    -- behind a state that has M all is idle
    have idle : ∀ (i0 : Nat) (τ : List Int × Int), τ.2 = M → (List.range i0).foldl (srchStep cut true x xs lst s most) σ = τ → ∀ d, i0 + d ≤ cut - c → (List.range (i0 + d)).foldl (srchStep cut true x xs lst s most) σ = τ := by
      intro i0 τ hτ he d
      induction d with
      | zero => intro _; exact he
      | succ d ih =>
        intro hd
        rw [← Nat.add_assoc, fold_succ, ih (by omega)]
        unfold srchStep
        rw [hc]
        refine srch_idle cut true xs _ _ _ τ (by omega) (fun v hv => ?_)
        rw [hτ]
        rw [fromG_snoc] at hv
        exact hr v ⟨c + (i0 + d), by omega, by omega, hv⟩
    have step0 : (List.range (0 + 1)).foldl (srchStep cut true x xs lst s most) σ = srch cut true xs (lst ++ [(c : Int)]) (up s c (s c + x)) (mxG most (s c + x)) σ := by
      rw [fold_succ]
      unfold srchStep
      rw [hc]
      rfl
    have hu : ∀ k v, up s k v k = v := fun k v => by unfold up; rw [if_pos rfl]
    have hg := mxG_ge most (s c + x)
    rw [greedyI, lastI] at *
    by_cases hcase : M < s c + x
    · rw [if_pos hcase] at hf ⊢
      have hl := last_lo M xs ((c : Int) + 1) x
      have hc1 : c + 1 < cut := by omega
      have hs1 : s (c + 1) = 0 := hz (c + 1) (by omega)
      -- the first child keeps away from M
      have hσ1 := srch_val cut true xs (lst ++ [(c : Int)]) (up s c (s c + x)) (mxG most (s c + x)) σ
      have h1 : ((List.range (0 + 1)).foldl (srchStep cut true x xs lst s most) σ).2 < 0 ∨ M < ((List.range (0 + 1)).foldl (srchStep cut true x xs lst s most) σ).2 := by
        rw [step0]
        rcases hσ1 with e | e
        · rw [e]; exact hσ
        · have := reach_ge _ _ _ _ _ _ _ e
          omega
      have step1 : (List.range (0 + 1 + 1)).foldl (srchStep cut true x xs lst s most) σ = (lst ++ [((c + 1 : Nat) : Int)] ++ greedyI M ((c + 1 : Nat) : Int) x xs, M) := by
        rw [fold_succ]
        generalize (List.range (0 + 1)).foldl (srchStep cut true x xs lst s most) σ = σ1 at h1
        unfold srchStep
        rw [hc, show c + (0 + 1) = c + 1 by omega, hs1]
        have hg1 := mxG_ge most (0 + x)
        have := srch_greedy cut M xs (lst ++ [((c + 1 : Nat) : Int)]) (up s (c + 1) (0 + x)) (mxG most (0 + x)) σ1 (c + 1) (by rw [fromG_snoc]; rfl) hc1 hxs (by omega) (by omega) (fun k hk => by unfold up; rw [if_neg (by omega)]; exact hz k (by omega))
          (fun v hv => hr v ⟨c + 1, by omega, hc1, by rw [hs1]; exact hv⟩) (by rw [hu, Int.zero_add]; exact_mod_cast hf) h1
        rw [this, hu, Int.zero_add]
      have := idle (0 + 1 + 1) _ rfl step1 (cut - c - 2) (by omega)
      rw [show 0 + 1 + 1 + (cut - c - 2) = cut - c by omega] at this
      rw [this]
      simp
    · rw [if_neg hcase] at hf ⊢
      have h2 := srch_greedy cut M xs (lst ++ [(c : Int)]) (up s c (s c + x)) (mxG most (s c + x)) σ c (by rw [fromG_snoc]; rfl) hcut hxs (by omega) (by omega) (fun k hk => by unfold up; rw [if_neg (by omega)]; exact hz k hk)
          (fun v hv => hr v ⟨c, Nat.le_refl _, hcut, hv⟩) (by rw [hu]; exact hf) hσ
      rw [hu] at h2
      have := idle (0 + 1) _ rfl (step0.trans h2) (cut - c - 1) (by omega)
      rw [show 0 + 1 + (cut - c - 1) = cut - c by omega] at this
      rw [this]
      simp
end Go.Proofs.Ytgfjmamjfkcmbaa.Pure
