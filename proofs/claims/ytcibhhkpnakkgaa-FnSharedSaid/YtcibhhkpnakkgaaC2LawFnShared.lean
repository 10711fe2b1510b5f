/- Contracts and plain laws of functions of the given program; no conditions beside those in the theorems. -/
import Derived.Test.YtcibhhkpnakkgaaC1LawFnShared
import Derived.Test.YtcibhhkpnakkgaaC0LawFnShared
namespace Go.Proofs.Ytcibhhkpnakkgaa.Pure
open Go.RowKit Go.Proofs.YtcibhhkpnakkgaaW.PrintWords Go.Proofs.YtcibhhkpnakkgaaW.PrintMore Go.Proofs.Ytcibhhkpnakkgaa.Q Go.Proofs.Ytcibhhkpnakkgaa.Ext
set_option linter.unusedVariables false
set_option linter.unusedSimpArgs false
def up (s : Nat → Int) (k : Nat) (v : Int) : Nat → Int := fun j => if j = k then v else s j
def srch (cut : Nat) (rising : Bool) : List Int → List Int → (Nat → Int) → Int → List Int × Int → List Int × Int
  | [], lst, s, most, σ => if 0 ≤ σ.2 ∧ σ.2 ≤ most then σ else (lst, most)
  | x :: xs, lst, s, most, σ => if 0 ≤ σ.2 ∧ σ.2 ≤ most then σ else
      (List.range (cut - fromG rising lst)).foldl (fun σ (i : Nat) => srch cut rising xs (lst ++ [((fromG rising lst + i : Nat) : Int)]) (up s (fromG rising lst + i) (s (fromG rising lst + i) + x)) (mxG most (s (fromG rising lst + i) + x)) σ) σ
def Reach (cut : Nat) (rising : Bool) : List Int → Nat → (Nat → Int) → Int → Int → Prop
  | [], _, _, m, v => v = m
  | x :: xs, f, s, m, v => ∃ k, f ≤ k ∧ k < cut ∧ Reach cut rising xs (if rising then k else 0) (up s k (s k + x)) (mxG m (s k + x)) v
theorem fromG_snoc (rising : Bool) (lst : List Int) (k : Nat) : fromG rising (lst ++ [(k : Int)]) = if rising then k else 0 := by
  unfold fromG
  cases rising with
  | false => simp
  | true =>
    have : rd (lst ++ [(k : Int)]) (((lst ++ [(k : Int)]).length : Int) - 1) = k := by
      unfold rd
      rw [show (((lst ++ [(k : Int)]).length : Int) - 1).toNat = lst.length by simp <;> omega, List.getD_eq_getElem?_getD]
      simp
    rw [if_pos ⟨rfl, by simp⟩, this]
    simp
def srchStep (cut : Nat) (rising : Bool) (x : Int) (xs lst : List Int) (s : Nat → Int) (most : Int) (σ : List Int × Int) (i : Nat) : List Int × Int :=
  srch cut rising xs (lst ++ [((fromG rising lst + i : Nat) : Int)]) (up s (fromG rising lst + i) (s (fromG rising lst + i) + x)) (mxG most (s (fromG rising lst + i) + x)) σ
theorem srch_cons (cut : Nat) (rising : Bool) (x : Int) (xs lst : List Int) (s : Nat → Int) (most : Int) (σ : List Int × Int) :
    srch cut rising (x :: xs) lst s most σ = if 0 ≤ σ.2 ∧ σ.2 ≤ most then σ else (List.range (cut - fromG rising lst)).foldl (srchStep cut rising x xs lst s most) σ := rfl
theorem mxG_ge (a b : Int) : a ≤ mxG a b ∧ b ≤ mxG a b ∧ (mxG a b = a ∨ mxG a b = b) := by unfold mxG; split <;> omega
theorem reach_ge (cut : Nat) (rising : Bool) : ∀ (xs : List Int) (f : Nat) (s : Nat → Int) (m v : Int), Reach cut rising xs f s m v → m ≤ v
  | [], f, s, m, v, h => by have : v = m := h; omega
  | x :: xs, f, s, m, v, h => by
    obtain ⟨k, _, _, h⟩ := h
    have := reach_ge cut rising xs _ _ _ _ h
    have := mxG_ge m (s k + x)
    omega
theorem srch_idle (cut : Nat) (rising : Bool) : ∀ (xs lst : List Int) (s : Nat → Int) (most : Int) (σ : List Int × Int), 0 ≤ σ.2 → (∀ v, Reach cut rising xs (fromG rising lst) s most v → σ.2 ≤ v) → srch cut rising xs lst s most σ = σ
  | [], lst, s, most, σ, h0, h => by
    unfold srch
    exact if_pos ⟨h0, h most rfl⟩
  | x :: xs, lst, s, most, σ, h0, h => by
    rw [srch_cons]
    split
    · rfl
    · have hi : ∀ i, i ≤ cut - fromG rising lst → (List.range i).foldl (srchStep cut rising x xs lst s most) σ = σ := by
        intro i
        induction i with
        | zero => intro _; rfl
        | succ i ih =>
          intro hi
          rw [fold_succ, ih (by omega)]
          unfold srchStep
          refine srch_idle cut rising xs _ _ _ σ h0 (fun v hv => h v ⟨fromG rising lst + i, by omega, by omega, ?_⟩)
          rw [fromG_snoc] at hv
          exact hv
      exact hi _ (Nat.le_refl _)
theorem srch_least (cut : Nat) (rising : Bool) : ∀ (xs lst : List Int) (s : Nat → Int) (most : Int) (σ : List Int × Int), 0 ≤ most →
    (0 ≤ σ.2 → 0 ≤ (srch cut rising xs lst s most σ).2 ∧ (srch cut rising xs lst s most σ).2 ≤ σ.2) ∧ (∀ v, Reach cut rising xs (fromG rising lst) s most v → 0 ≤ (srch cut rising xs lst s most σ).2 ∧ (srch cut rising xs lst s most σ).2 ≤ v)
  | [], lst, s, most, σ, hm => by
    unfold srch
    split
    · exact ⟨fun h => ⟨h, Int.le_refl _⟩, fun v hv => by have : v = most := hv; omega⟩
    · exact ⟨fun h => ⟨hm, by dsimp only; omega⟩, fun v hv => ⟨hm, by have : v = most := hv; dsimp only; omega⟩⟩
  | x :: xs, lst, s, most, σ, hm => by
    rw [srch_cons]
    split
    · rename_i hp
      exact ⟨fun h => ⟨h, Int.le_refl _⟩, fun v hv => by have := reach_ge _ _ _ _ _ _ _ hv; omega⟩
    · have hi : ∀ i, i ≤ cut - fromG rising lst → (0 ≤ σ.2 → 0 ≤ ((List.range i).foldl (srchStep cut rising x xs lst s most) σ).2 ∧ ((List.range i).foldl (srchStep cut rising x xs lst s most) σ).2 ≤ σ.2) ∧
          (∀ j v, j < i → Reach cut rising xs (if rising then fromG rising lst + j else 0) (up s (fromG rising lst + j) (s (fromG rising lst + j) + x)) (mxG most (s (fromG rising lst + j) + x)) v → 0 ≤ ((List.range i).foldl (srchStep cut rising x xs lst s most) σ).2 ∧ ((List.range i).foldl (srchStep cut rising x xs lst s most) σ).2 ≤ v) := by
        intro i
        induction i with
        | zero => intro _; exact ⟨fun h => ⟨h, Int.le_refl _⟩, fun j v hj => absurd hj (Nat.not_lt_zero _)⟩
        | succ i ih =>
          intro hi
          obtain ⟨h1, h2⟩ := ih (by omega)
          rw [fold_succ]
          generalize (List.range i).foldl (srchStep cut rising x xs lst s most) σ = σi at h1 h2
          have hmx := mxG_ge most (s (fromG rising lst + i) + x)
          obtain ⟨h3, h4⟩ := srch_least cut rising xs (lst ++ [((fromG rising lst + i : Nat) : Int)]) (up s (fromG rising lst + i) (s (fromG rising lst + i) + x)) (mxG most (s (fromG rising lst + i) + x)) σi (by omega)
          rw [fromG_snoc] at h4
          refine ⟨fun h => ?_, fun j v hj hv => ?_⟩
          · have a := h1 h
            have b := h3 a.1
            exact ⟨b.1, by have := b.2; have := a.2; unfold srchStep; omega⟩
          · by_cases e : j = i
            · subst e; exact h4 v hv
            · have a := h2 j v (by omega) hv
              have b := h3 a.1
              exact ⟨b.1, by have := b.2; have := a.2; unfold srchStep; omega⟩
      obtain ⟨h1, h2⟩ := hi _ (Nat.le_refl _)
      refine ⟨h1, fun v hv => ?_⟩
      obtain ⟨k, hk1, hk2, hk⟩ := hv
      refine h2 (k - fromG rising lst) v (by omega) ?_
      rw [show fromG rising lst + (k - fromG rising lst) = k by omega]
      exact hk
theorem reach_any (cut : Nat) (hc : 0 < cut) : ∀ (xs : List Int) (s : Nat → Int) (m : Int), ∃ v, Reach cut false xs 0 s m v
  | [], s, m => ⟨m, rfl⟩
  | x :: xs, s, m => by
    obtain ⟨v, hv⟩ := reach_any cut hc xs (up s 0 (s 0 + x)) (mxG m (s 0 + x))
    exact ⟨v, 0, Nat.le_refl _, hc, hv⟩
def tau (i j k : Nat) : Nat := if k = i then j else if k = j then i else k
theorem tau_tau (i j k : Nat) : tau i j (tau i j k) = k := by unfold tau; split <;> (try split) <;> (try split) <;> omega
theorem up_tau (i j : Nat) (s : Nat → Int) (k : Nat) (v : Int) : (fun q => up s k v (tau i j q)) = up (fun q => s (tau i j q)) (tau i j k) v := by
  funext q
  unfold up
  by_cases h : tau i j q = k
  · rw [if_pos h, if_pos (by rw [← h, tau_tau])]
  · rw [if_neg h, if_neg (fun e => h (by rw [e, tau_tau]))]
theorem reach_tau (cut i j : Nat) (hi : i < cut) (hj : j < cut) : ∀ (xs : List Int) (s : Nat → Int) (m v : Int), Reach cut false xs 0 s m v → Reach cut false xs 0 (fun q => s (tau i j q)) m v
  | [], s, m, v, h => h
  | x :: xs, s, m, v, h => by
    obtain ⟨k, _, hk, h⟩ := h
    have h1 := reach_tau cut i j hi hj xs _ _ _ h
    rw [up_tau] at h1
    refine ⟨tau i j k, Nat.zero_le _, by unfold tau; split <;> (try split) <;> omega, ?_⟩
    show Reach cut false xs _ (up _ _ (s (tau i j (tau i j k)) + x)) (mxG m (s (tau i j (tau i j k)) + x)) v
    rw [tau_tau]
    exact h1
theorem rd_set_ne (l : List Int) (k q : Nat) (v : Int) (h : q ≠ k) : rd (l.set k v) (q : Int) = rd l (q : Int) := by
  unfold rd
  simp only [Int.toNat_natCast, List.getD_eq_getElem?_getD]
  rw [List.getElem?_set_ne (by omega)]
theorem rd_up (l : List Int) (k : Nat) (v : Int) (h : k < l.length) : (fun (q : Nat) => rd (l.set k v) (q : Int)) = up (fun (q : Nat) => rd l (q : Int)) k v := by
  funext q
  unfold up
  by_cases e : q = k
  · subst e; rw [if_pos rfl, rd_set _ _ _ h]
  · rw [if_neg e, rd_set_ne _ _ _ _ e]
theorem give_srch (t : List Int) (cut : Nat) (rising : Bool) (hb : timesB t = true) (hl : t.length ≤ 12) : ∀ (r : Nat) (lst sums : List Int) (most : Int) (σ : List Int × Int), lst.length + r = t.length → sums.length = cut →
    (∀ k : Nat, k < cut → 0 ≤ rd sums (k : Int) ∧ rd sums (k : Int) ≤ 100000 * lst.length) → giveM t cut rising r lst sums most σ = srch cut rising (t.drop lst.length) lst (fun (q : Nat) => rd sums (q : Int)) most σ
  | 0, lst, sums, most, σ, h, hs, hbd => by
    rw [List.drop_eq_nil_of_le (by omega)]
    rfl
  | r + 1, lst, sums, most, σ, h, hs, hbd => by
    rw [drop_cons t lst.length (by omega), giveM_succ, srch_cons]
    split
    · rfl
    · have hi : ∀ i, i ≤ cut - fromG rising lst → (List.range i).foldl (Go.Proofs.Ytcibhhkpnakkgaa.Ext.stepG t cut rising r lst sums most) σ = (List.range i).foldl (srchStep cut rising (rd t (lst.length : Int)) (t.drop (lst.length + 1)) lst (fun (q : Nat) => rd sums (q : Int)) most) σ := by
        intro i
        induction i with
        | zero => intro _; rfl
        | succ i ih =>
          intro hi
          rw [fold_succ, fold_succ, ih (by omega)]
          generalize (List.range i).foldl _ σ = σi
          unfold Go.Proofs.Ytcibhhkpnakkgaa.Ext.stepG srchStep
          have hk : fromG rising lst + i < cut := by omega
          generalize fromG rising lst + i = k at hk
          have h1 := hbd k hk
          have h2 := times_rd hb lst.length (by omega)
          have hadd : addG t sums lst.length k = sums.set k (rd sums (k : Int) + rd t (lst.length : Int)) := by
            unfold addG
            rw [w64 (by omega) (by omega)]
          rw [hadd, rd_set _ _ _ (by omega)]
          have := give_srch t cut rising hb hl r (lst ++ [(k : Int)]) (sums.set k (rd sums (k : Int) + rd t (lst.length : Int))) (mxG most (rd sums (k : Int) + rd t (lst.length : Int))) σi (by simp; omega) (by rw [List.length_set]; exact hs) (by
            intro q hq
            by_cases e : q = k
            · subst e; rw [rd_set _ _ _ (by omega)]; simp; omega
            · rw [rd_set_ne _ _ _ _ e]; have := hbd q hq; simp; omega)
          rw [this, rd_up _ _ _ (by omega)]
          simp
      exact hi _ (Nat.le_refl _)
theorem foldMx_spec (l : List Int) : ∀ (a : Int), (l.foldl mx a = a ∨ l.foldl mx a ∈ l) ∧ a ≤ l.foldl mx a ∧ ∀ y ∈ l, y ≤ l.foldl mx a := by
  induction l with
  | nil => intro a; exact ⟨Or.inl rfl, Int.le_refl _, fun y hy => absurd hy (by simp)⟩
  | cons x xs ih =>
    intro a
    obtain ⟨h1, h2, h3⟩ := ih (mx a x)
    have hm : a ≤ mx a x ∧ x ≤ mx a x ∧ (mx a x = a ∨ mx a x = x) := by unfold mx; split <;> omega
    rw [List.foldl_cons]
    refine ⟨?_, by omega, ?_⟩
    · rcases h1 with h1 | h1
      · rw [h1]
        rcases hm.2.2 with e | e
        · exact Or.inl e
        · exact Or.inr (by rw [e]; exact List.mem_cons_self ..)
      · exact Or.inr (List.mem_cons_of_mem _ h1)
    · intro y hy
      rcases List.mem_cons.1 hy with e | e
      · subst e; omega
      · exact h3 y e
theorem foldMax_spec (l : List Int) (h : 0 < l.length) : foldMax l ∈ l ∧ ∀ y ∈ l, y ≤ foldMax l := by
  cases l with
  | nil => simp at h
  | cons x xs =>
    obtain ⟨h1, h2, h3⟩ := foldMx_spec xs x
    refine ⟨?_, fun y hy => ?_⟩
    · rcases h1 with e | e
      · exact List.mem_cons.2 (Or.inl e)
      · exact List.mem_cons.2 (Or.inr e)
    · rcases List.mem_cons.1 hy with e | e
      · subst e; exact h2
      · exact h3 y e
theorem mostS_eq (sums : List Int) (M : Int) (h0 : 0 ≤ M) (h1 : M = 0 ∨ M ∈ sums) (h2 : ∀ y ∈ sums, y ≤ M) : mostS sums = M := by
  obtain ⟨a, b⟩ := foldMax_spec (sums ++ [0]) (by simp)
  have c : foldMax (sums ++ [0]) ≤ M := by
    rcases List.mem_append.1 a with e | e
    · exact h2 _ e
    · rw [List.mem_singleton.1 e]; exact h0
  have d : M ≤ foldMax (sums ++ [0]) := by
    rcases h1 with e | e
    · rw [e]; exact b 0 (by simp)
    · exact b M (by simp [e])
  exact Int.le_antisymm c d
theorem mostS_spec (sums : List Int) : 0 ≤ mostS sums ∧ (mostS sums = 0 ∨ mostS sums ∈ sums) ∧ ∀ y ∈ sums, y ≤ mostS sums := by
  obtain ⟨a, b⟩ := foldMax_spec (sums ++ [0]) (by simp)
  refine ⟨b 0 (by simp), ?_, fun y hy => b y (by simp [hy])⟩
  rcases List.mem_append.1 a with e | e
  · exact Or.inr e
  · exact Or.inl (List.mem_singleton.1 e)
theorem mostS_set (l : List Int) (k : Nat) (v : Int) (hk : k < l.length) (hv : rd l (k : Int) ≤ v) : mostS (l.set k v) = mxG (mostS l) v := by
  obtain ⟨a, b, c⟩ := mostS_spec l
  have hm := mxG_ge (mostS l) v
  refine mostS_eq _ _ (by omega) ?_ ?_
  · rcases hm.2.2 with e | e
    · rw [e]
      rcases b with b | b
      · exact Or.inl b
      · by_cases hj : mostS l ∈ l.set k v
        · exact Or.inr hj
        · refine Or.inr ?_
          obtain ⟨j, hj1, hj2⟩ := List.mem_iff_getElem.1 b
          by_cases ej : j = k
          · subst ej
            have : rd l (j : Int) = mostS l := by rw [rd_get _ _ hj1]; exact hj2
            have : mostS l = v := by omega
            rw [this]
            exact List.mem_iff_getElem.2 ⟨j, by simpa using hj1, by simp⟩
          · exact absurd (List.mem_iff_getElem.2 ⟨j, by simpa using hj1, by rw [List.getElem_set_ne (by omega)]; exact hj2⟩) hj
    · exact Or.inr (by rw [e]; exact List.mem_iff_getElem.2 ⟨k, by simpa using hk, by simp⟩)
  · intro y hy
    rcases List.mem_or_eq_of_mem_set hy with h | h
    · have := c y h; omega
    · rw [h]; omega
theorem mostS_snoc (l : List Int) : mostS (l ++ [0]) = mostS l := by
  obtain ⟨a, b, c⟩ := mostS_spec l
  refine mostS_eq _ _ a (b.imp id (fun h => by simp [h])) (fun y hy => ?_)
  rcases List.mem_append.1 hy with h | h
  · exact c y h
  · rw [List.mem_singleton.1 h]; exact a
theorem grown_rd (sums : List Int) (k : Nat) (q : Nat) : rd (grownS sums k) (q : Int) = rd sums (q : Int) := by
  unfold grownS
  split
  · unfold rd
    simp only [Int.toNat_natCast, List.getD_eq_getElem?_getD]
    by_cases h : q < sums.length
    · rw [List.getElem?_append_left h]
    · rw [List.getElem?_eq_none (l := sums) (by omega)]
      by_cases h2 : q = sums.length
      · subst h2; simp
      · rw [List.getElem?_eq_none (by simp; omega)]
  · rfl
theorem grown_lenk (sums : List Int) (k : Nat) (h : k ≤ sums.length) : k < (grownS sums k).length ∧ (grownS sums k).length ≤ sums.length + 1 ∧ sums.length ≤ (grownS sums k).length := by
  unfold grownS
  split
  · simp; omega
  · omega
theorem grown_most (sums : List Int) (k : Nat) : mostS (grownS sums k) = mostS sums := by
  unfold grownS
  split
  · exact mostS_snoc sums
  · rfl
structure okS (t : List Int) (lst sums : List Int) : Prop where
  bd : ∀ k : Nat, 0 ≤ rd sums (k : Int) ∧ rd sums (k : Int) ≤ 100000 * lst.length
theorem nextS_eq (t lst sums : List Int) (k : Nat) (hb : timesB t = true) (hl : t.length ≤ 12) (hp : lst.length < t.length) (ho : okS t lst sums) : nextS t sums lst.length k = (grownS sums k).set k (rd sums (k : Int) + rd t (lst.length : Int)) := by
  unfold nextS
  have h1 := ho.bd k
  have h2 := times_rd hb lst.length hp
  rw [grown_rd, w64 (by omega) (by omega)]
theorem nextS_ok (t lst sums : List Int) (k : Nat) (hb : timesB t = true) (hl : t.length ≤ 12) (hp : lst.length < t.length) (hk : k ≤ sums.length) (ho : okS t lst sums) : okS t (lst ++ [(k : Int)]) (nextS t sums lst.length k) := by
  rw [nextS_eq t lst sums k hb hl hp ho]
  refine ⟨fun q => ?_⟩
  have h2 := times_rd hb lst.length hp
  by_cases e : q = k
  · subst e; rw [rd_set _ _ _ (grown_lenk sums q hk).1]; have := ho.bd q; simp; omega
  · rw [rd_set_ne _ _ _ _ e, grown_rd]; have := ho.bd q; simp; omega
theorem nextS_most (t lst sums : List Int) (k : Nat) (hb : timesB t = true) (hl : t.length ≤ 12) (hp : lst.length < t.length) (hk : k ≤ sums.length) (ho : okS t lst sums) : mostS (nextS t sums lst.length k) = mxG (mostS sums) (rd sums (k : Int) + rd t (lst.length : Int)) := by
  have h2 := times_rd hb lst.length hp
  rw [nextS_eq t lst sums k hb hl hp ho, mostS_set _ _ _ (grown_lenk sums k hk).1 (by rw [grown_rd]; omega), grown_most]
theorem nextS_up (t lst sums : List Int) (k : Nat) (hb : timesB t = true) (hl : t.length ≤ 12) (hp : lst.length < t.length) (hk : k ≤ sums.length) (ho : okS t lst sums) : (fun (q : Nat) => rd (nextS t sums lst.length k) (q : Int)) = up (fun (q : Nat) => rd sums (q : Int)) k (rd sums (k : Int) + rd t (lst.length : Int)) := by
  rw [nextS_eq t lst sums k hb hl hp ho, rd_up _ _ _ (grown_lenk sums k hk).1]
  congr 1
  funext q
  exact grown_rd sums k q
theorem nextS_len (t lst sums : List Int) (k : Nat) (hk : k ≤ sums.length) : (nextS t sums lst.length k).length ≤ sums.length + 1 ∧ sums.length ≤ (nextS t sums lst.length k).length ∧ (k < sums.length → (nextS t sums lst.length k).length = sums.length) := by
  unfold nextS
  rw [List.length_set]
  have := grown_lenk sums k hk
  refine ⟨this.2.1, this.2.2, fun h => ?_⟩
  unfold grownS
  rw [if_neg (by omega)]
theorem choose_idle (t : List Int) (cut : Nat) (hb : timesB t = true) (hl : t.length ≤ 12) : ∀ (r : Nat) (lst sums : List Int) (σ : List Int × Int), lst.length + r = t.length → okS t lst sums → 0 ≤ σ.2 → σ.2 ≤ mostS sums → chooseS t cut r lst sums σ = σ
  | 0, lst, sums, σ, h, ho, h0, h1 => by
    show updS lst sums σ = σ
    unfold updS
    exact if_neg (by omega)
  | r + 1, lst, sums, σ, h, ho, h0, h1 => by
    rw [chooseS_succ]
    have hi : ∀ i, i ≤ min (sums.length + 1) cut → (List.range i).foldl (stepS t cut r lst sums) σ = σ := by
      intro i
      induction i with
      | zero => intro _; rfl
      | succ i ih =>
        intro hi
        rw [fold_succ, ih (by omega)]
        unfold stepS
        have hm := nextS_most t lst sums i hb hl (by omega) (by omega) ho
        have hg := mxG_ge (mostS sums) (rd sums (i : Int) + rd t (lst.length : Int))
        exact choose_idle t cut hb hl r _ _ σ (by simp; omega) (nextS_ok t lst sums i hb hl (by omega) (by omega) ho) h0 (by omega)
    exact hi _ (Nat.le_refl _)
theorem choose_srch (t : List Int) (cut : Nat) (hb : timesB t = true) (hl : t.length ≤ 12) : ∀ (r : Nat) (lst sums : List Int) (σ : List Int × Int), lst.length + r = t.length → sums.length ≤ cut → okS t lst sums →
    chooseS t cut r lst sums σ = srch cut false (t.drop lst.length) lst (fun (q : Nat) => rd sums (q : Int)) (mostS sums) σ
  | 0, lst, sums, σ, h, hs, ho => by
    rw [List.drop_eq_nil_of_le (by omega)]
    show updS lst sums σ = if _ then _ else _
    unfold updS
    by_cases c : 0 ≤ σ.2 ∧ σ.2 ≤ mostS sums
    · rw [if_pos c, if_neg (by omega)]
    · rw [if_neg c, if_pos (by omega)]
  | r + 1, lst, sums, σ, h, hs, ho => by
    have h0 := (mostS_spec sums).1
    rw [drop_cons t lst.length (by omega), srch_cons]
    split
    · rename_i c
      exact choose_idle t cut hb hl (r + 1) lst sums σ h ho c.1 c.2
    · rw [chooseS_succ]
      have hf : fromG false lst = 0 := by unfold fromG; simp
      have hx := times_rd hb lst.length (by omega)
      have hi : ∀ i, i ≤ min (sums.length + 1) cut → (List.range i).foldl (stepS t cut r lst sums) σ = (List.range i).foldl (srchStep cut false (rd t (lst.length : Int)) (t.drop (lst.length + 1)) lst (fun (q : Nat) => rd sums (q : Int)) (mostS sums)) σ := by
        intro i
        induction i with
        | zero => intro _; rfl
        | succ i ih =>
          intro hi
          rw [fold_succ, fold_succ, ih (by omega)]
          generalize (List.range i).foldl _ σ = σi
          unfold stepS srchStep
          rw [hf, Nat.zero_add]
          have hlen := nextS_len t lst sums i (by omega)
          have := choose_srch t cut hb hl r (lst ++ [(i : Int)]) (nextS t sums lst.length i) σi (by simp; omega) (by by_cases e : i < sums.length; rw [hlen.2.2 e]; exact hs; omega) (nextS_ok t lst sums i hb hl (by omega) (by omega) ho)
          rw [this, nextS_up t lst sums i hb hl (by omega) (by omega) ho, nextS_most t lst sums i hb hl (by omega) (by omega) ho]
          simp
      rw [hi _ (Nat.le_refl _), hf, Nat.sub_zero]
      by_cases hm : cut ≤ sums.length + 1
      · rw [show min (sums.length + 1) cut = cut by omega]
      · rw [show min (sums.length + 1) cut = sums.length + 1 by omega]
        have hstate := fold_succ (srchStep cut false (rd t (lst.length : Int)) (t.drop (lst.length + 1)) lst (fun (q : Nat) => rd sums (q : Int)) (mostS sums)) σ sums.length
        have hz : ∀ q : Nat, sums.length ≤ q → rd sums (q : Int) = 0 := by
          intro q hq
          unfold rd
          rw [Int.toNat_natCast, List.getD_eq_getElem?_getD, List.getElem?_eq_none hq]; rfl
        have hleast : ∀ v, Reach cut false (t.drop (lst.length + 1)) 0 (up (fun (q : Nat) => rd sums (q : Int)) sums.length (0 + rd t (lst.length : Int))) (mxG (mostS sums) (0 + rd t (lst.length : Int))) v →
            0 ≤ ((List.range (sums.length + 1)).foldl (srchStep cut false (rd t (lst.length : Int)) (t.drop (lst.length + 1)) lst (fun (q : Nat) => rd sums (q : Int)) (mostS sums)) σ).2 ∧
            ((List.range (sums.length + 1)).foldl (srchStep cut false (rd t (lst.length : Int)) (t.drop (lst.length + 1)) lst (fun (q : Nat) => rd sums (q : Int)) (mostS sums)) σ).2 ≤ v := by
          intro v hv
          rw [hstate]
          generalize (List.range sums.length).foldl _ σ = σi
          unfold srchStep
          rw [hf, Nat.zero_add]
          dsimp only
          have hg := mxG_ge (mostS sums) (rd sums (sums.length : Int) + rd t (lst.length : Int))
          refine (srch_least cut false _ _ _ _ σi (by omega)).2 v ?_
          rw [fromG_snoc, hz _ (Nat.le_refl _)]
          exact hv
        have hj : ∀ d, sums.length + 1 + d ≤ cut → (List.range (sums.length + 1 + d)).foldl (srchStep cut false (rd t (lst.length : Int)) (t.drop (lst.length + 1)) lst (fun (q : Nat) => rd sums (q : Int)) (mostS sums)) σ =
            (List.range (sums.length + 1)).foldl (srchStep cut false (rd t (lst.length : Int)) (t.drop (lst.length + 1)) lst (fun (q : Nat) => rd sums (q : Int)) (mostS sums)) σ := by
          intro d
          induction d with
          | zero => intro _; rfl
          | succ d ih =>
            intro hd
            rw [← Nat.add_assoc, fold_succ, ih (by omega)]
            generalize (List.range (sums.length + 1)).foldl _ σ = σm at hleast
            unfold srchStep
            rw [hf, Nat.zero_add]
            dsimp only
            rw [hz _ (by omega)]
            have key : ∀ v, Reach cut false (t.drop (lst.length + 1)) (fromG false (lst ++ [((sums.length + 1 + d : Nat) : Int)])) (up (fun (q : Nat) => rd sums (q : Int)) (sums.length + 1 + d) (0 + rd t (lst.length : Int))) (mxG (mostS sums) (0 + rd t (lst.length : Int))) v → 0 ≤ σm.2 ∧ σm.2 ≤ v := by
              intro v hv
              rw [fromG_snoc] at hv
              refine hleast v ?_
              have h1 := reach_tau cut sums.length (sums.length + 1 + d) (by omega) (by omega) _ _ _ _ hv
              rw [up_tau] at h1
              have e1 : tau sums.length (sums.length + 1 + d) (sums.length + 1 + d) = sums.length := by unfold tau; split <;> (try split) <;> omega
              have e2 : (fun q => (fun (q : Nat) => rd sums (q : Int)) (tau sums.length (sums.length + 1 + d) q)) = (fun (q : Nat) => rd sums (q : Int)) := by
                funext q
                show rd sums ((tau sums.length (sums.length + 1 + d) q : Nat) : Int) = rd sums (q : Int)
                unfold tau
                split
                · rename_i e; subst e; rw [hz _ (by omega), hz _ (Nat.le_refl _)]
                · split
                  · rename_i e; subst e; rw [hz _ (Nat.le_refl _), hz _ (by omega)]
                  · rfl
              rw [e1, e2] at h1
              exact h1
            by_cases h0' : 0 ≤ σm.2
            · exact srch_idle cut false _ _ _ _ σm h0' (fun v hv => (key v hv).2)
            ·
              obtain ⟨v, hv⟩ := reach_any cut (by omega) (t.drop (lst.length + 1)) (up (fun (q : Nat) => rd sums (q : Int)) (sums.length + 1 + d) (0 + rd t (lst.length : Int))) (mxG (mostS sums) (0 + rd t (lst.length : Int)))
              exact absurd (key v (by rw [fromG_snoc]; exact hv)).1 h0'
        have := hj (cut - (sums.length + 1)) (by omega)
        rw [show sums.length + 1 + (cut - (sums.length + 1)) = cut by omega] at this
        exact this.symm
theorem cutters_eq (n : Int) : spec_l05Cutters.f n = some (inB n 1 6) := by
  unfold spec_l05Cutters.f
  rw [in_eq]; rfl
theorem share_same (t : List Int) (cut : Nat) (hb : timesB t = true) (hl : t.length ≤ 12) : chooseS t cut t.length [] [] ([], -1) = giveC t cut false := by
  unfold giveC
  rw [choose_srch t cut hb hl t.length [] [] ([], -1) (by simp) (by simp) ⟨fun k => by simp [rd]⟩, give_srch t cut false hb hl t.length [] (List.replicate cut 0) 0 ([], -1) (by simp) (by simp) (by
    intro k hk
    have : rd (List.replicate cut (0 : Int)) (k : Int) = 0 := by simp [rd, List.getD_eq_getElem?_getD, List.getElem?_replicate]; split <;> rfl
    rw [this]; simp)]
  have e1 : (fun (q : Nat) => rd ([] : List Int) (q : Int)) = fun (q : Nat) => rd (List.replicate cut (0 : Int)) (q : Int) := by
    funext q
    simp [rd, List.getD_eq_getElem?_getD, List.getElem?_replicate]
    split <;> rfl
  rw [e1]
  rfl
theorem spec_share_eq {k : Nat} (t : List Int) (n : Int) (hl : t.length ≤ 1048576) (hk : t.length < k) : spec_ShareAny.f k t n = some (shareC t n) := by
  unfold spec_ShareAny.f shareC
  rw [cutters_eq]
  simp only [Option.bind_some]
  rw [spec_times_eq t _ 8 (by omega) hl hk]
  simp only [Option.bind_some]
  by_cases hz : timesC (inB n 1 6) t 8 = 0
  · obtain ⟨h1, hb, h8⟩ := timesC_zero hz
    obtain ⟨h2, h3⟩ := inB_iff.1 h1
    rw [if_pos hz, if_pos hz, share_same t n.toNat hb (by omega)]
    unfold spec_l05Shared.f
    rw [if_pos ⟨by omega, by omega, by omega⟩]
    rfl
  · rw [if_neg hz, if_neg hz]
open Go.RowKit Go.Proofs.Ytcibhhkpnakkgaa.Ext Go.Proofs.Ytcibhhkpnakkgaa.Q Go.Proofs.YtcibhhkpnakkgaaW.PrintWords Go.Proofs.YtcibhhkpnakkgaaW.PrintLast Go.Proofs.YtcibhhkpnakkgaaW.PrintMore
def greedyI (m c s : Int) : List Int → List Int
  | [] => []
  | t :: ts => if m < s + t then (c + 1) :: greedyI m (c + 1) t ts else c :: greedyI m c (s + t) ts
def lastI (m c s : Int) : List Int → Int
  | [] => c
  | t :: ts => if m < s + t then lastI m (c + 1) t ts else lastI m c (s + t) ts
theorem greedyI_len (m c s : Int) (l : List Int) : (greedyI m c s l).length = l.length := by
  induction l generalizing c s with
  | nil => rfl
  | cons t ts ih => simp only [greedyI]; split <;> simp [ih]
theorem greedyI_last (m c s : Int) (l : List Int) (h : 0 < l.length) : rd (greedyI m c s l) ((l.length - 1 : Nat) : Int) = lastI m c s l := by
  induction l generalizing c s with
  | nil => simp at h
  | cons t ts ih =>
    cases ts with
    | nil => simp only [greedyI, lastI, List.length_cons, List.length_nil, rd]; split <;> simp
    | cons u us =>
      have e : ((t :: u :: us).length - 1 : Nat) = (u :: us).length - 1 + 1 := by simp
      rw [e]
      have step : ∀ (x : Int) (xs : List Int) (n : Nat), rd (x :: xs) ((n + 1 : Nat) : Int) = rd xs n := by intro x xs n; simp [rd]
      rw [greedyI, lastI]
      by_cases h : m < s + t
      · rw [if_pos h, if_pos h, step]; exact ih _ _ (by simp)
      · rw [if_neg h, if_neg h, step]; exact ih _ _ (by simp)
theorem order_l0 (l : List Int) (m : Int) (hb : timesB l = true) (hl : l.length ≤ 12) : ∀ (d k n : Nat) (c s : Int) (out : List Int), n + d = l.length → d < k → out.length ≤ n → 0 ≤ c → c ≤ n → 0 ≤ s → s ≤ 100000 * n →
    impl_inOrder.l0 k m out c s l l.length n = some (out ++ greedyI m c s (l.drop n))
  | 0, k, n, c, s, out, hd, hk, ho, h1, h2, h3, h4 => by
    obtain ⟨k, rfl⟩ := some_k hk
    simp only [impl_inOrder.l0]
    rw [if_neg (by omega), List.drop_eq_nil_of_le (by omega)]
    simp [greedyI]
  | d + 1, k, n, c, s, out, hd, hk, ho, h1, h2, h3, h4 => by
    obtain ⟨k, rfl⟩ := some_k hk
    have ht := times_rd hb n (by omega)
    simp only [impl_inOrder.l0]
    rw [if_pos (by omega), if_pos (by omega), if_pos (by omega), wrap_succ n (by omega), w64 (x := s + rd l n) (by omega) (by omega), w64 (x := c + 1) (by omega) (by omega), w64 (x := 0 + rd l n) (by omega) (by omega), drop_cons l n (by omega), greedyI]
    by_cases h : m < s + rd l n
    · rw [if_pos h, if_pos (by omega), if_pos h, order_l0 l m hb hl d k (n + 1) _ _ _ (by omega) (by omega) (by simp; omega) (by omega) (by omega) (by omega) (by omega)]
      simp
    · rw [if_neg h, if_pos (by omega), if_neg h, order_l0 l m hb hl d k (n + 1) _ _ _ (by omega) (by omega) (by simp; omega) (by omega) (by omega) (by omega) (by omega)]
      simp
theorem order_eq {k : Nat} (l : List Int) (m : Int) (hb : timesB l = true) (hl : l.length ≤ 12) (hk : l.length < k) : impl_inOrder.f k l m = some (greedyI m 0 0 l) := by
  unfold impl_inOrder.f
  have := order_l0 l m hb hl l.length k 0 0 0 [] (by omega) hk (by simp) (by omega) (by omega) (by omega) (by omega)
  simpa using this
end Go.Proofs.Ytcibhhkpnakkgaa.Pure
namespace Go.Proofs.Ytcibhhkpnakkgaa.Ext
end Go.Proofs.Ytcibhhkpnakkgaa.Ext
namespace Go.Proofs.Ytcibhhkpnakkgaa.Q
open Go.Proofs.Ytcibhhkpnakkgaa.Ext
open Go.RowKit Go.Proofs.YtcibhhkpnakkgaaW.PrintWords Go.Proofs.YtcibhhkpnakkgaaW.PrintLast Go.Proofs.YtcibhhkpnakkgaaW.PrintMore
attribute [local go_sem] max2_int min2_int max_two min_two max_three min_three max_four min_four
set_option linter.unusedVariables false
set_option linter.unusedSimpArgs false
def spec_ShareLines.f (k : Nat) (l0 : List Int) (a1 : Int) : Option (List Int × Int × Int) := (spec_l05Cutters.f a1).bind fun t138 => ((spec_l05Times.f k l0 t138 12).bind fun t139 => (if t139 = 0 then ((spec_l05Shared.f l0 a1 true).bind fun bt140 => (some (bt140.1, bt140.2, 0))) else (some ((([] : List Int)), 0, t139))))
theorem spec_ShareLines.mono : ∀ a0 a1 k, LeO (spec_ShareLines.f k a0 a1) (spec_ShareLines.f (k + 1) a0 a1) := by
  intro a0 a1 k
  unfold spec_ShareLines.f
  repeat' first
      | (with_reducible exact spec_l05Times.mono _ _ _ _)
      | (with_reducible exact LeO.refl _)
      | (with_reducible exact LeO.none _)
      | (with_reducible refine LeO.ite ?_ ?_)
      | (with_reducible refine LeO.bind ?_ (fun _ => ?_))
      | exact spec_l05Times.mono _ _ _ _
      | exact LeO.none _
      | refine LeO.ite ?_ ?_
      | refine LeO.bind ?_ (fun _ => ?_)
set_option maxHeartbeats 8000000 in
set_option maxRecDepth 100000 in
theorem spec_ShareLines.calls (k : Nat) (A0 : Option Addr) (c0 : Nat) (l0 : List Int) (a1 : Int) (r1 : List Int) (r2 : Int) (r3 : Int) (w : World) (hr0 : Kd.C (Kd.int .i64) w A0 l0.length l0) (hc0 : l0.length ≤ c0) (h : spec_ShareLines.f k l0 a1 = some (r1, r2, r3)) :
    Calls Try.prog 8 #[.slice A0 l0.length c0, .int .i64 a1] w fun e w' => ∃ v0_ : Value, e = .returned (.tuple #[v0_, .int .i64 r2, .int .i64 r3]) ∧ Kd.R (Kd.int .i64) 2 w' w.heap.size (fun _ => True) v0_ r1 ∧ Below w.heap.size w w' := by
  have HR0 := Aside0.mk hr0
  have HC0 := Aside0.mk hc0
  clear hr0 hc0
  have HB := Aside0.mk (Below.refl w.heap.size w)
  have H : ((spec_l05Cutters.f a1).bind fun t138 => ((spec_l05Times.f k l0 t138 12).bind fun t139 => (if t139 = 0 then ((spec_l05Shared.f l0 a1 true).bind fun bt140 => (some (bt140.1, bt140.2, 0))) else (some ((([] : List Int)), 0, t139))))) = some (r1, r2, r3) := h
  clear h
  replace H := Option.bind_eq_some_iff.mp H
  obtain ⟨t138, A30, H⟩ := H
  replace H : ((spec_l05Times.f k l0 t138 12).bind fun t139 => (if t139 = 0 then ((spec_l05Shared.f l0 a1 true).bind fun bt140 => (some (bt140.1, bt140.2, 0))) else (some ((([] : List Int)), 0, t139)))) = some (r1, r2, r3) := H
  have A3 := Aside0.mk A30
  clear A30
  replace H := Option.bind_eq_some_iff.mp H
  obtain ⟨t139, A40, H⟩ := H
  replace H : (if t139 = 0 then ((spec_l05Shared.f l0 a1 true).bind fun bt140 => (some (bt140.1, bt140.2, 0))) else (some ((([] : List Int)), 0, t139))) = some (r1, r2, r3) := H
  have A4 := Aside0.mk A40
  clear A40
  by_cases c5 : t139 = 0
  · rw [if_pos c5] at H
    have c5b0 : (t139 == 0) = true := beq_iff_eq.mpr c5
    have c5b1 : (t139 != 0) = false := bne_eq_false_iff_eq.mpr c5
    clear c5
    replace H := Option.bind_eq_some_iff.mp H
    obtain ⟨⟨t140, t141⟩, A60, H⟩ := H
    replace H : (some (t140, t141, 0)) = some (r1, r2, r3) := H
    have A6 := Aside0.mk A60
    clear A60
    simp only [Option.some.injEq, Prod.mk.injEq] at H
    obtain ⟨rfl, rfl, rfl⟩ := H
    go_enter Try.func8, Try.ntmps8
    go_wp2_with (first | ((with_reducible refine gate_callee (f := 26) rfl ?_); refine goesL_ (some 12) rfl rfl Try.func26 (by kernel_rfl) rfl #[.int .i64 a1] rfl (by (try simp only [List.map_toArray, List.map_cons, List.map_nil]); first | done | rfl | (simp only [List.length_drop, List.length_take]; rfl)) ?_; (with_reducible refine (spec_l05Cutters.calls a1 t138 _ A3.out).mono ?_); rintro e w' ⟨rfl, ⟨nd, rfl⟩⟩; refine ⟨_, rfl, ?_⟩) | ((with_reducible refine gate_callee (f := 25) rfl ?_); refine goesL_ (some 13) rfl rfl Try.func25 (by kernel_rfl) rfl #[.slice A0 l0.length c0, .bool t138, .int .i64 12] rfl (by (try simp only [List.map_toArray, List.map_cons, List.map_nil]); first | done | rfl | (simp only [List.length_drop, List.length_take]; rfl)) ?_; (with_reducible refine (spec_l05Times.calls k _ _ l0 t138 12 t139 _ ?side1 ?side2 A4.out).mono ?_); (case side1 => repeat (first | exact HR0.out | (with_reducible refine Kd.C_alloc ?_ _) | (with_reducible refine Kd.C_drewN ?_ _) | (with_reducible refine Kd.C_drew ?_))); (case side2 => exact HC0.out); rintro e w' ⟨rfl, ⟨nd, rfl⟩⟩; refine ⟨_, rfl, ?_⟩) | ((with_reducible refine gate_callee (f := 27) rfl ?_); refine goesL_ (some 21) rfl rfl Try.func27 (by kernel_rfl) rfl #[.slice A0 l0.length c0, .int .i64 a1, .bool true] rfl (by (try simp only [List.map_toArray, List.map_cons, List.map_nil]); first | done | rfl | (simp only [List.length_drop, List.length_take]; rfl)) ?_; (with_reducible refine (spec_l05Shared.calls _ _ l0 a1 true t140 t141 _ ?side1 ?side2 A6.out).mono ?_); (case side1 => repeat (first | exact HR0.out | (with_reducible refine Kd.C_alloc ?_ _) | (with_reducible refine Kd.C_drewN ?_ _) | (with_reducible refine Kd.C_drew ?_))); (case side2 => exact HC0.out); rintro e w7 ⟨v142, rfl, ho0, hb⟩; refine ⟨_, rfl, ?_⟩; have n0_ := Aside0.mk (Kd.R_lower ho0 (below_size (by repeat (first | (with_reducible first | exact HB.out | apply below_alloc | apply pw_below_drewN | apply below_drew1) | exact HB.out)))); have n1_ := Aside0.mk (below_step (by repeat (first | (with_reducible first | exact HB.out | apply below_alloc | apply pw_below_drewN | apply below_drew1) | exact HB.out)) hb); clear HB; have HO143 := n0_; have HB := n1_; clear n0_ n1_; (try clear hb); (try clear hb2); (try clear hk); (try clear hi); (try clear ho0)))
    go_ret3
    exact ⟨_, by first | rfl | (simp [errW_none, errW_some] <;> rfl) | (simp [*, errW_none, errW_some] <;> rfl), by (with_reducible repeat (first | apply Kd.R_alloc | apply Kd.R_drewN | apply Kd.R_drew)); exact HO143.out, by repeat (first | (with_reducible first | exact HB.out | apply below_alloc | apply pw_below_drewN | apply below_drew1) | exact HB.out)⟩
  · rw [if_neg c5] at H
    have c5b0 : (t139 == 0) = false := beq_eq_false_iff_ne.mpr c5
    have c5b1 : (t139 != 0) = true := bne_iff_ne.mpr c5
    obtain ⟨y144, hy144⟩ : ∃ y_ : List Int, y_ = (([] : List Int)) := ⟨_, rfl⟩
    replace H : (some (y144, 0, t139)) = some (r1, r2, r3) := by first | (rw [hy144]; with_reducible exact H) | (have H2_ := (Option.bind_some _ _).symm.trans H; rw [hy144]; with_reducible exact H2_) | (have H2_ := (Option.bind_some _ _).symm.trans H; with_reducible exact H2_) | with_reducible exact H | (rw [hy144]; exact H) | exact H
    have Ny144 := Aside0.mk hy144
    clear hy144
    simp only [Option.some.injEq, Prod.mk.injEq] at H
    obtain ⟨rfl, rfl, rfl⟩ := H
    go_enter Try.func8, Try.ntmps8
    go_wp2_with (first | ((with_reducible refine gate_callee (f := 26) rfl ?_); refine goesL_ (some 12) rfl rfl Try.func26 (by kernel_rfl) rfl #[.int .i64 a1] rfl (by (try simp only [List.map_toArray, List.map_cons, List.map_nil]); first | done | rfl | (simp only [List.length_drop, List.length_take]; rfl)) ?_; (with_reducible refine (spec_l05Cutters.calls a1 t138 _ A3.out).mono ?_); rintro e w' ⟨rfl, ⟨nd, rfl⟩⟩; refine ⟨_, rfl, ?_⟩) | ((with_reducible refine gate_callee (f := 25) rfl ?_); refine goesL_ (some 13) rfl rfl Try.func25 (by kernel_rfl) rfl #[.slice A0 l0.length c0, .bool t138, .int .i64 12] rfl (by (try simp only [List.map_toArray, List.map_cons, List.map_nil]); first | done | rfl | (simp only [List.length_drop, List.length_take]; rfl)) ?_; (with_reducible refine (spec_l05Times.calls k _ _ l0 t138 12 t139 _ ?side1 ?side2 A4.out).mono ?_); (case side1 => repeat (first | exact HR0.out | (with_reducible refine Kd.C_alloc ?_ _) | (with_reducible refine Kd.C_drewN ?_ _) | (with_reducible refine Kd.C_drew ?_))); (case side2 => exact HC0.out); rintro e w' ⟨rfl, ⟨nd, rfl⟩⟩; refine ⟨_, rfl, ?_⟩) | ((with_reducible refine gate_dst (N := 16) rfl ?_); refine Kd.R_lit (Kd.int .i64) _ 2 ?hg (N := 16) ?hd (xs := ([] : List Int)) (inner := []) (ok := fun _ => True) (okp := fun _ => True) ?hr ?hp (fun _ hk => hk) trivial (Below.refl _ _) (Nat.le_refl _) (by simp) ?_; (case hd => rfl); (case hg => rfl); (case hr => first | (go_simp; done) | (go_simp; rfl)); (case hp => exact (Reps.none _ _)); intro v145 w8 ho9 hb hg_ hnew_; clear hg_ hnew_; (first | rw [← Ny144.out] at ho9 | (simp only [Int.reduceToNat] at ho9; rw [← Ny144.out] at ho9)); have n0_ := Aside0.mk (Kd.R_lower ho9 (below_size (by repeat (first | (with_reducible first | exact HB.out | apply below_alloc | apply pw_below_drewN | apply below_drew1) | exact HB.out)))); have n1_ := Aside0.mk (below_step (by repeat (first | (with_reducible first | exact HB.out | apply below_alloc | apply pw_below_drewN | apply below_drew1) | exact HB.out)) hb); clear HB; have HO146 := n0_; have HB := n1_; clear n0_ n1_; clear hb ho9))
    go_ret3
    exact ⟨_, by first | rfl | (simp [errW_none, errW_some] <;> rfl) | (simp [*, errW_none, errW_some] <;> rfl), by (with_reducible repeat (first | apply Kd.R_alloc | apply Kd.R_drewN | apply Kd.R_drew)); exact HO146.out, by repeat (first | (with_reducible first | exact HB.out | apply below_alloc | apply pw_below_drewN | apply below_drew1) | exact HB.out)⟩
end Go.Proofs.Ytcibhhkpnakkgaa.Q
namespace Go.Proofs.Ytcibhhkpnakkgaa.Pure
open Go.RowKit Go.Proofs.YtcibhhkpnakkgaaW.PrintWords Go.Proofs.YtcibhhkpnakkgaaW.PrintMore Go.Proofs.Ytcibhhkpnakkgaa.Q Go.Proofs.Ytcibhhkpnakkgaa.Ext
set_option linter.unusedVariables false
set_option linter.unusedSimpArgs false
def sumL : List Int → Int
  | [] => 0
  | x :: xs => x + sumL xs
theorem sumL_bd (l : List Int) (hb : timesB l = true) : 0 ≤ sumL l ∧ sumL l ≤ 100000 * l.length := by
  induction l with
  | nil => simp [sumL]
  | cons x xs ih =>
    have h : timesB xs = true ∧ inB x 1 100000 = true := by
      unfold timesB at hb ⊢
      rw [List.all_cons, Bool.and_eq_true] at hb
      exact ⟨hb.2, hb.1⟩
    obtain ⟨h1, h2⟩ := inB_iff.1 h.2
    have := ih h.1
    rw [sumL, List.length_cons]
    omega
theorem total_l0 (l : List Int) (hb : timesB l = true) (hl : l.length ≤ 12) : ∀ (d k n : Nat) (s : Int), n + d = l.length → d < k → 0 ≤ s → s ≤ 100000 * n → impl_total.l0 k s l l.length n = some (s + sumL (l.drop n))
  | 0, k, n, s, hd, hk, h0, h1 => by
    obtain ⟨k, rfl⟩ := some_k hk
    simp only [impl_total.l0]
    rw [if_neg (by omega), List.drop_eq_nil_of_le (by omega)]
    simp [sumL]
  | d + 1, k, n, s, hd, hk, h0, h1 => by
    obtain ⟨k, rfl⟩ := some_k hk
    simp only [impl_total.l0]
    have ht := times_rd hb n (by omega)
    rw [if_pos (by omega), if_pos (by omega), if_pos (by omega), wrap_succ n (by omega), w64 (by omega) (by omega), total_l0 l hb hl d k (n + 1) _ (by omega) (by omega) (by omega) (by omega), drop_cons l n (by omega), sumL]
    congr 1
    omega
theorem total_eq {k : Nat} (l : List Int) (hb : timesB l = true) (hl : l.length ≤ 12) (hk : l.length < k) : impl_total.f k l = some (sumL l) := by
  have := total_l0 l hb hl l.length k 0 0 (by omega) hk (by omega) (by omega)
  simpa [impl_total.f] using this
def lexle (c' s' c s : Int) : Prop := c' < c ∨ (c' = c ∧ s' ≤ s)
theorem last_mono (m m' : Int) (hm : m ≤ m') : ∀ (xs : List Int) (c' s' c s : Int), (∀ x ∈ xs, 0 ≤ x) → 0 ≤ s → lexle c' s' c s → lastI m' c' s' xs ≤ lastI m c s xs
  | [], c', s', c, s, hx, h0, h => by unfold lastI; rcases h with h | h <;> omega
  | x :: xs, c', s', c, s, hx, h0, h => by
    have hx0 := hx x (List.mem_cons_self ..)
    have hxs := fun y hy => hx y (List.mem_cons_of_mem _ hy)
    rw [lastI, lastI]
    unfold lexle at h
    split <;> split
    · exact last_mono m m' hm xs _ _ _ _ hxs (by omega) (by unfold lexle; omega)
    · exact last_mono m m' hm xs _ _ _ _ hxs (by omega) (by unfold lexle; omega)
    · exact last_mono m m' hm xs _ _ _ _ hxs (by omega) (by unfold lexle; omega)
    · exact last_mono m m' hm xs _ _ _ _ hxs (by omega) (by unfold lexle; omega)
theorem last_one (m : Int) : ∀ (xs : List Int) (c s : Int), (∀ x ∈ xs, 0 ≤ x) → s + sumL xs ≤ m → lastI m c s xs = c
  | [], c, s, hx, h => rfl
  | x :: xs, c, s, hx, h => by
    have hxs := fun y hy => hx y (List.mem_cons_of_mem _ hy)
    have h0 : 0 ≤ sumL xs := by
      clear h hx
      induction xs with
      | nil => simp [sumL]
      | cons y ys ih => rw [sumL]; have := hxs y (List.mem_cons_self ..); have := ih (fun z hz => hxs z (List.mem_cons_of_mem _ hz)); omega
    rw [sumL] at h
    rw [lastI, if_neg (by omega)]
    exact last_one m xs c (s + x) hxs (by omega)
theorem last_lo (m : Int) : ∀ (xs : List Int) (c s : Int), c ≤ lastI m c s xs
  | [], c, s => Int.le_refl _
  | x :: xs, c, s => by
    rw [lastI]
    split
    · have := last_lo m xs (c + 1) x; omega
    · exact last_lo m xs c (s + x)
theorem reach_feas (cut : Nat) (v : Int) : ∀ (xs : List Int) (f : Nat) (s : Nat → Int) (m c' s' : Int), (∀ x ∈ xs, 0 ≤ x) → f < cut → (∀ k, 0 ≤ s k) → (∀ k, f < k → s k = 0) → lexle c' s' f (s f) → Reach cut true xs f s m v → lastI v c' s' xs < cut
  | [], f, s, m, c', s', hx, hf, h0, hz, h, hr => by unfold lastI; unfold lexle at h; omega
  | x :: xs, f, s, m, c', s', hx, hf, h0, hz, h, hr => by
    have hx0 := hx x (List.mem_cons_self ..)
    have hxs := fun y hy => hx y (List.mem_cons_of_mem _ hy)
    obtain ⟨k, hk1, hk2, hr⟩ := hr
    have hge := reach_ge _ _ _ _ _ _ _ hr
    have hmx := mxG_ge m (s k + x)
    have hz' : ∀ q, k < q → up s k (s k + x) q = 0 := fun q hq => by unfold up; rw [if_neg (by omega)]; exact hz q (by omega)
    have h0' : ∀ q, 0 ≤ up s k (s k + x) q := fun q => by unfold up; split; have := h0 k; omega; exact h0 q
    have hu : up s k (s k + x) k = s k + x := by unfold up; rw [if_pos rfl]
    have hr' : Reach cut true xs k (up s k (s k + x)) (mxG m (s k + x)) v := hr
    have hsk : f < k → s k = 0 := fun h => hz k h
    have hskf : k = f → s k = s f := fun h => by rw [h]
    have hf0 := h0 f
    unfold lexle at h
    rw [lastI]
    split
    · exact reach_feas cut v xs k _ _ _ _ hxs hk2 h0' hz' (by unfold lexle; rw [hu]; by_cases e : k = f; have := hskf e; omega; have := hsk (by omega); omega) hr'
    · exact reach_feas cut v xs k _ _ _ _ hxs hk2 h0' hz' (by unfold lexle; rw [hu]; by_cases e : k = f; have := hskf e; omega; have := hsk (by omega); omega) hr'
theorem reach_mx (cut : Nat) (rising : Bool) (v : Int) : ∀ (xs : List Int) (f : Nat) (s : Nat → Int) (m : Int), (∀ x ∈ xs, 0 ≤ x) → (∀ k, 0 ≤ s k) → Reach cut rising xs f s m v → ∀ x ∈ xs, x ≤ v
  | [], f, s, m, hx, h0, hr => fun x h => absurd h (by simp)
  | x :: xs, f, s, m, hx, h0, hr => by
    have hx0 := hx x (List.mem_cons_self ..)
    have hxs := fun y hy => hx y (List.mem_cons_of_mem _ hy)
    obtain ⟨k, hk1, hk2, hr⟩ := hr
    have hge := reach_ge _ _ _ _ _ _ _ hr
    have hmx := mxG_ge m (s k + x)
    have hk0 := h0 k
    intro y hy
    rcases List.mem_cons.1 hy with e | e
    · subst e; omega
    · exact reach_mx cut rising v xs _ _ _ hxs (fun q => by unfold up; split; omega; exact h0 q) hr y e
theorem srch_val (cut : Nat) (rising : Bool) : ∀ (xs lst : List Int) (s : Nat → Int) (most : Int) (σ : List Int × Int), (srch cut rising xs lst s most σ).2 = σ.2 ∨ Reach cut rising xs (fromG rising lst) s most (srch cut rising xs lst s most σ).2
  | [], lst, s, most, σ => by
    unfold srch
    split
    · exact Or.inl rfl
    · exact Or.inr rfl
  | x :: xs, lst, s, most, σ => by
    rw [srch_cons]
    split
    · exact Or.inl rfl
    · have hi : ∀ i, i ≤ cut - fromG rising lst → ((List.range i).foldl (srchStep cut rising x xs lst s most) σ).2 = σ.2 ∨ Reach cut rising (x :: xs) (fromG rising lst) s most ((List.range i).foldl (srchStep cut rising x xs lst s most) σ).2 := by
        intro i
        induction i with
        | zero => intro _; exact Or.inl rfl
        | succ i ih =>
          intro hi
          rw [fold_succ]
          have h1 := ih (by omega)
          generalize (List.range i).foldl (srchStep cut rising x xs lst s most) σ = σi at h1
          unfold srchStep
          have h2 := srch_val cut rising xs (lst ++ [((fromG rising lst + i : Nat) : Int)]) (up s (fromG rising lst + i) (s (fromG rising lst + i) + x)) (mxG most (s (fromG rising lst + i) + x)) σi
          rcases h2 with h2 | h2
          · rw [h2]; exact h1
          · rw [fromG_snoc] at h2
            exact Or.inr ⟨fromG rising lst + i, by omega, by omega, h2⟩
      exact hi _ (Nat.le_refl _)
theorem srch_greedy (cut : Nat) (M : Int) : ∀ (xs lst : List Int) (s : Nat → Int) (most : Int) (σ : List Int × Int) (c : Nat), fromG true lst = c → c < cut → (∀ x ∈ xs, 0 ≤ x ∧ x ≤ M) → 0 ≤ most → most ≤ M → (∀ k, c < k → s k = 0) → (∀ v, Reach cut true xs c s most v → M ≤ v) →
    lastI M c (s c) xs < cut → (σ.2 < 0 ∨ M < σ.2) → srch cut true xs lst s most σ = (lst ++ greedyI M c (s c) xs, M)
  | [], lst, s, most, σ, c, hc, hcut, hx, h0, hm, hz, hr, hf, hσ => by
    unfold srch
    rw [if_neg (by omega)]
    have := hr most rfl
    have : most = M := by omega
    rw [this]
    simp [greedyI]
  | x :: xs, lst, s, most, σ, c, hc, hcut, hx, h0, hm, hz, hr, hf, hσ => by
    obtain ⟨hx0, hxM⟩ := hx x (List.mem_cons_self ..)
    have hxs := fun y hy => hx y (List.mem_cons_of_mem _ hy)
    rw [srch_cons, if_neg (by omega), hc]
    have idle : ∀ (i0 : Nat) (τ : List Int × Int), τ.2 = M → (List.range i0).foldl (srchStep cut true x xs lst s most) σ = τ → ∀ d, i0 + d ≤ cut - c → (List.range (i0 + d)).foldl (srchStep cut true x xs lst s most) σ = τ := by
      intro i0 τ hτ he d
      induction d with
      | zero => intro _; exact he
      | succ d ih =>
        intro hd
        rw [← Nat.add_assoc, fold_succ, ih (by omega)]
        unfold srchStep
        rw [hc]
        refine srch_idle cut true xs _ _ _ τ (by omega) (fun v hv => ?_)
        rw [hτ]
        rw [fromG_snoc] at hv
        exact hr v ⟨c + (i0 + d), by omega, by omega, hv⟩
    have step0 : (List.range (0 + 1)).foldl (srchStep cut true x xs lst s most) σ = srch cut true xs (lst ++ [(c : Int)]) (up s c (s c + x)) (mxG most (s c + x)) σ := by
      rw [fold_succ]
      unfold srchStep
      rw [hc]
      rfl
    have hu : ∀ k v, up s k v k = v := fun k v => by unfold up; rw [if_pos rfl]
    have hg := mxG_ge most (s c + x)
    rw [greedyI, lastI] at *
    by_cases hcase : M < s c + x
    · rw [if_pos hcase] at hf ⊢
      have hl := last_lo M xs ((c : Int) + 1) x
      have hc1 : c + 1 < cut := by omega
      have hs1 : s (c + 1) = 0 := hz (c + 1) (by omega)
      have hσ1 := srch_val cut true xs (lst ++ [(c : Int)]) (up s c (s c + x)) (mxG most (s c + x)) σ
      have h1 : ((List.range (0 + 1)).foldl (srchStep cut true x xs lst s most) σ).2 < 0 ∨ M < ((List.range (0 + 1)).foldl (srchStep cut true x xs lst s most) σ).2 := by
        rw [step0]
        rcases hσ1 with e | e
        · rw [e]; exact hσ
        · have := reach_ge _ _ _ _ _ _ _ e
          omega
      have step1 : (List.range (0 + 1 + 1)).foldl (srchStep cut true x xs lst s most) σ = (lst ++ [((c + 1 : Nat) : Int)] ++ greedyI M ((c + 1 : Nat) : Int) x xs, M) := by
        rw [fold_succ]
        generalize (List.range (0 + 1)).foldl (srchStep cut true x xs lst s most) σ = σ1 at h1
        unfold srchStep
        rw [hc, show c + (0 + 1) = c + 1 by omega, hs1]
        have hg1 := mxG_ge most (0 + x)
        have := srch_greedy cut M xs (lst ++ [((c + 1 : Nat) : Int)]) (up s (c + 1) (0 + x)) (mxG most (0 + x)) σ1 (c + 1) (by rw [fromG_snoc]; rfl) hc1 hxs (by omega) (by omega) (fun k hk => by unfold up; rw [if_neg (by omega)]; exact hz k (by omega))
          (fun v hv => hr v ⟨c + 1, by omega, hc1, by rw [hs1]; exact hv⟩) (by rw [hu, Int.zero_add]; exact_mod_cast hf) h1
        rw [this, hu, Int.zero_add]
      have := idle (0 + 1 + 1) _ rfl step1 (cut - c - 2) (by omega)
      rw [show 0 + 1 + 1 + (cut - c - 2) = cut - c by omega] at this
      rw [this]
      simp
    · rw [if_neg hcase] at hf ⊢
      have h2 := srch_greedy cut M xs (lst ++ [(c : Int)]) (up s c (s c + x)) (mxG most (s c + x)) σ c (by rw [fromG_snoc]; rfl) hcut hxs (by omega) (by omega) (fun k hk => by unfold up; rw [if_neg (by omega)]; exact hz k hk)
          (fun v hv => hr v ⟨c, Nat.le_refl _, hcut, hv⟩) (by rw [hu]; exact hf) hσ
      rw [hu] at h2
      have := idle (0 + 1) _ rfl (step0.trans h2) (cut - c - 1) (by omega)
      rw [show 0 + 1 + (cut - c - 1) = cut - c by omega] at this
      rw [this]
      simp
def finF : List Int → List Int → (Nat → Int) → (Nat → Int)
  | x :: xs, y :: ys, s => finF xs ys (up s y.toNat (s y.toNat + x))
  | _, _, s => s
theorem finF_nil (ys : List Int) (s : Nat → Int) : finF [] ys s = s := by unfold finF; rfl
theorem finF_snoc : ∀ (xs ys : List Int) (s : Nat → Int) (x y : Int), xs.length = ys.length → finF (xs ++ [x]) (ys ++ [y]) s = up (finF xs ys s) y.toNat (finF xs ys s y.toNat + x)
  | [], [], s, x, y, _ => rfl
  | a :: xs, b :: ys, s, x, y, h => finF_snoc xs ys _ x y (by simpa using h)
  | [], _ :: _, _, _, _, h => by simp at h
  | _ :: _, [], _, _, _, h => by simp at h
theorem take_rd (l : List Int) (i : Nat) (h : i < l.length) : l.take (i + 1) = l.take i ++ [rd l (i : Int)] := by
  rw [List.take_add_one, List.getElem?_eq_getElem h, Option.toList_some, rd_get l i h]
theorem finF_step (t x : List Int) (s : Nat → Int) (i : Nat) (h : i < t.length) (hx : x.length = t.length) : finF (t.take (i + 1)) (x.take (i + 1)) s = up (finF (t.take i) (x.take i) s) (rd x (i : Int)).toNat (finF (t.take i) (x.take i) s (rd x (i : Int)).toNat + rd t (i : Int)) := by
  rw [take_rd t i h, take_rd x i (by omega), finF_snoc _ _ _ _ _ (by simp; omega)]
def Path (cut : Nat) (rising : Bool) : List Int → List Int → Nat → (Nat → Int) → Int → Int → Prop
  | [], ys, _, _, m, v => ys = [] ∧ v = m
  | x :: xs, ys, f, s, m, v => ∃ (k : Nat) (zs : List Int), ys = (k : Int) :: zs ∧ f ≤ k ∧ k < cut ∧ Path cut rising xs zs (if rising then k else 0) (up s k (s k + x)) (mxG m (s k + x)) v
theorem srch_wit (cut : Nat) (rising : Bool) : ∀ (xs lst : List Int) (s : Nat → Int) (most : Int) (σ : List Int × Int), srch cut rising xs lst s most σ = σ ∨ ∃ ys, (srch cut rising xs lst s most σ).1 = lst ++ ys ∧ Path cut rising xs ys (fromG rising lst) s most (srch cut rising xs lst s most σ).2
  | [], lst, s, most, σ => by
    unfold srch
    split
    · exact Or.inl rfl
    · exact Or.inr ⟨[], (List.append_nil _).symm, rfl, rfl⟩
  | x :: xs, lst, s, most, σ => by
    rw [srch_cons]
    split
    · exact Or.inl rfl
    · have hi : ∀ i, i ≤ cut - fromG rising lst → (List.range i).foldl (srchStep cut rising x xs lst s most) σ = σ ∨ ∃ ys, ((List.range i).foldl (srchStep cut rising x xs lst s most) σ).1 = lst ++ ys ∧ Path cut rising (x :: xs) ys (fromG rising lst) s most ((List.range i).foldl (srchStep cut rising x xs lst s most) σ).2 := by
        intro i
        induction i with
        | zero => intro _; exact Or.inl rfl
        | succ i ih =>
          intro hi
          rw [fold_succ]
          have h1 := ih (by omega)
          generalize (List.range i).foldl (srchStep cut rising x xs lst s most) σ = σi at h1
          unfold srchStep
          have h2 := srch_wit cut rising xs (lst ++ [((fromG rising lst + i : Nat) : Int)]) (up s (fromG rising lst + i) (s (fromG rising lst + i) + x)) (mxG most (s (fromG rising lst + i) + x)) σi
          rcases h2 with h2 | ⟨ys, e, h2⟩
          · rw [h2]; exact h1
          · rw [fromG_snoc] at h2
            exact Or.inr ⟨((fromG rising lst + i : Nat) : Int) :: ys, by rw [e, List.append_assoc]; rfl, fromG rising lst + i, ys, rfl, by omega, by omega, h2⟩
      exact hi _ (Nat.le_refl _)
theorem path_reach (cut : Nat) (rising : Bool) : ∀ (xs ys : List Int) (f : Nat) (s : Nat → Int) (m v : Int), Path cut rising xs ys f s m v → Reach cut rising xs f s m v
  | [], _, _, _, _, _, h => h.2
  | x :: xs, ys, f, s, m, v, h => by
    obtain ⟨k, zs, _, h1, h2, h3⟩ := h
    exact ⟨k, h1, h2, path_reach cut rising xs zs _ _ _ _ h3⟩
theorem path_ex (cut : Nat) : ∀ (xs ys : List Int) (s : Nat → Int) (m : Int), ys.length = xs.length → (∀ y ∈ ys, 0 ≤ y ∧ y < (cut : Int)) → ∃ v, Path cut false xs ys 0 s m v
  | [], ys, s, m, h, _ => ⟨m, List.eq_nil_of_length_eq_zero h, rfl⟩
  | x :: xs, [], s, m, h, _ => by simp at h
  | x :: xs, y :: ys, s, m, h, hy => by
    obtain ⟨h0, h1⟩ := hy y (List.mem_cons_self ..)
    obtain ⟨v, hv⟩ := path_ex cut xs ys (up s y.toNat (s y.toNat + x)) (mxG m (s y.toNat + x)) (by simpa using h) (fun z hz => hy z (List.mem_cons_of_mem _ hz))
    exact ⟨v, y.toNat, ys, by rw [Int.toNat_of_nonneg h0], Nat.zero_le _, by omega, hv⟩
theorem path_len (cut : Nat) (rising : Bool) : ∀ (xs ys : List Int) (f : Nat) (s : Nat → Int) (m v : Int), Path cut rising xs ys f s m v → ys.length = xs.length
  | [], ys, _, _, _, _, h => by rw [h.1]
  | x :: xs, ys, f, s, m, v, h => by
    obtain ⟨k, zs, e, _, _, h3⟩ := h
    rw [e, List.length_cons, List.length_cons, path_len cut rising xs zs _ _ _ _ h3]
theorem path_mem (cut : Nat) (rising : Bool) : ∀ (xs ys : List Int) (f : Nat) (s : Nat → Int) (m v : Int), Path cut rising xs ys f s m v → ∀ y ∈ ys, 0 ≤ y ∧ y < (cut : Int)
  | [], ys, _, _, _, _, h => by rw [h.1]; simp
  | x :: xs, ys, f, s, m, v, h => by
    obtain ⟨k, zs, e, _, h2, h3⟩ := h
    intro y hy
    rw [e] at hy
    rcases List.mem_cons.1 hy with rfl | hy
    · omega
    · exact path_mem cut rising xs zs _ _ _ _ h3 y hy
theorem rd_cons_succ (x : Int) (xs : List Int) (n : Nat) : rd (x :: xs) ((n + 1 : Nat) : Int) = rd xs n := by simp [rd]
theorem rd_cons_zero (x : Int) (xs : List Int) : rd (x :: xs) ((0 : Nat) : Int) = x := by simp [rd]
theorem path_rise (cut : Nat) : ∀ (xs ys : List Int) (f : Nat) (s : Nat → Int) (m v : Int), Path cut true xs ys f s m v → (∀ y ∈ ys, (f : Int) ≤ y) ∧ ∀ i, i + 1 < ys.length → rd ys (i : Int) ≤ rd ys ((i + 1 : Nat) : Int)
  | [], ys, _, _, _, _, h => by rw [h.1]; exact ⟨by simp, by simp⟩
  | x :: xs, ys, f, s, m, v, h => by
    obtain ⟨k, zs, rfl, h1, h2, h3⟩ := h
    obtain ⟨a, b⟩ := path_rise cut xs zs _ _ _ _ h3
    rw [if_pos rfl] at a
    refine ⟨fun y hy => ?_, fun i hi => ?_⟩
    · rcases List.mem_cons.1 hy with rfl | hy
      · omega
      · have := a y hy; omega
    · rw [rd_cons_succ]
      cases i with
      | zero =>
        rw [rd_cons_zero]
        exact a _ (rd_mem zs 0 (by simpa using hi))
      | succ i => rw [rd_cons_succ]; exact b i (by simpa using hi)
theorem path_most (cut : Nat) (rising : Bool) : ∀ (xs ys : List Int) (f : Nat) (s : Nat → Int) (m v : Int), Path cut rising xs ys f s m v → (∀ x ∈ xs, 0 ≤ x) → (∀ k, s k ≤ m) → (m = 0 ∨ ∃ k, k < cut ∧ s k = m) →
    (∀ k, finF xs ys s k ≤ v) ∧ (v = 0 ∨ ∃ k, k < cut ∧ finF xs ys s k = v)
  | [], ys, _, s, m, v, h, _, hs, hm => by
    obtain ⟨rfl, rfl⟩ := h
    exact ⟨hs, hm⟩
  | x :: xs, ys, f, s, m, v, h, hx, hs, hm => by
    obtain ⟨k, zs, rfl, h1, h2, h3⟩ := h
    have hx0 := hx x (List.mem_cons_self ..)
    have hg := mxG_ge m (s k + x)
    have huk : up s k (s k + x) k = s k + x := by unfold up; rw [if_pos rfl]
    have hun : ∀ q, q ≠ k → up s k (s k + x) q = s q := fun q hq => by unfold up; rw [if_neg hq]
    have e : finF (x :: xs) ((k : Int) :: zs) s = finF xs zs (up s k (s k + x)) := by show finF xs zs (up s ((k : Int)).toNat (s ((k : Int)).toNat + x)) = _; rw [Int.toNat_natCast]
    rw [e]
    refine path_most cut rising xs zs _ _ _ _ h3 (fun y hy => hx y (List.mem_cons_of_mem _ hy)) (fun q => ?_) ?_
    · by_cases hq : q = k
      · subst hq; rw [huk]; exact hg.2.1
      · rw [hun q hq]; have := hs q; omega
    · rcases hg.2.2 with g | g
      · rcases hm with hm | ⟨q, hq, hqe⟩
        · exact Or.inl (by omega)
        · by_cases hqk : q = k
          · subst hqk
            exact Or.inr ⟨q, hq, by rw [huk]; omega⟩
          · exact Or.inr ⟨q, hq, by rw [hun q hqk]; omega⟩
      · exact Or.inr ⟨k, h2, by rw [huk, g]⟩
def sumN (s : Nat → Int) : Nat → Int
  | 0 => 0
  | n + 1 => sumN s n + s n
theorem sumN_up_out (s : Nat → Int) (k : Nat) (v : Int) : ∀ n, n ≤ k → sumN (up s k v) n = sumN s n := by
  intro n
  induction n with
  | zero => intro _; rfl
  | succ n ih =>
    intro h
    unfold sumN
    rw [ih (by omega)]
    unfold up
    rw [if_neg (by omega)]
theorem sumN_up (s : Nat → Int) (k : Nat) (x : Int) : ∀ n, k < n → sumN (up s k (s k + x)) n = sumN s n + x := by
  intro n
  induction n with
  | zero => intro h; omega
  | succ n ih =>
    intro h
    unfold sumN
    by_cases e : k = n
    · subst e
      rw [sumN_up_out s k _ k (Nat.le_refl _)]
      unfold up
      rw [if_pos rfl]; omega
    · rw [ih (by omega)]
      have : up s k (s k + x) n = s n := by unfold up; rw [if_neg (fun q => e q.symm)]
      rw [this]; omega
theorem sumN_zero (n : Nat) : sumN (fun _ => 0) n = 0 := by
  induction n with
  | zero => rfl
  | succ n ih => unfold sumN; rw [ih]; rfl
theorem sumN_le (s : Nat → Int) (v : Int) (h : ∀ k, s k ≤ v) : ∀ n : Nat, sumN s n ≤ v * n := by
  intro n
  induction n with
  | zero => simp [sumN]
  | succ n ih =>
    unfold sumN
    have := h n
    have e : v * ((n + 1 : Nat) : Int) = v * n + v := by rw [Int.natCast_add, Int.mul_add]; simp
    rw [e]; omega
theorem fin_sum (cut : Nat) : ∀ (xs ys : List Int) (s : Nat → Int), ys.length = xs.length → (∀ y ∈ ys, 0 ≤ y ∧ y < (cut : Int)) → sumN (finF xs ys s) cut = sumN s cut + sumL xs
  | [], ys, s, _, _ => by rw [finF_nil]; simp [sumL]
  | x :: xs, [], s, h, _ => by simp at h
  | x :: xs, y :: ys, s, h, hy => by
    obtain ⟨h0, h1⟩ := hy y (List.mem_cons_self ..)
    have := fin_sum cut xs ys (up s y.toNat (s y.toNat + x)) (by simpa using h) (fun z hz => hy z (List.mem_cons_of_mem _ hz))
    show sumN (finF xs ys _) cut = _
    rw [this, sumN_up s y.toNat x cut (by omega)]
    simp only [sumL]
    omega
structure Shd (t : List Int) (cut : Nat) (rising : Bool) (X : List Int) (v : Int) : Prop where
  len : X.length = t.length
  mem : ∀ y ∈ X, 0 ≤ y ∧ y < (cut : Int)
  rise : rising = true → ∀ i, i + 1 < X.length → rd X (i : Int) ≤ rd X ((i + 1 : Nat) : Int)
  most : ∀ k, finF t X (fun _ => 0) k ≤ v
  hit : v = 0 ∨ ∃ k, k < cut ∧ finF t X (fun _ => 0) k = v
  v0 : 0 ≤ v
  least : ∀ (Y : List Int) (m : Int), rising = false → Y.length = t.length → (∀ y ∈ Y, 0 ≤ y ∧ y < (cut : Int)) → (∀ k, k < cut → finF t Y (fun _ => 0) k ≤ m) → 0 ≤ m → v ≤ m
  long : ∀ x ∈ t, x ≤ v
  all : sumL t ≤ v * cut
  zero : v = 0 ↔ t = []
theorem timesB_mem {t : List Int} (hb : timesB t = true) : ∀ x ∈ t, 1 ≤ x ∧ x ≤ 100000 := fun x hx => inB_iff.1 (List.all_eq_true.1 hb x hx)
theorem give_is (t : List Int) (cut : Nat) (rising : Bool) (hb : timesB t = true) (hl : t.length ≤ 12) : giveC t cut rising = srch cut rising t [] (fun _ => 0) 0 ([], -1) := by
  unfold giveC
  rw [give_srch t cut rising hb hl t.length [] (List.replicate cut 0) 0 ([], -1) (by simp) (by simp) (by
    intro k hk
    have : rd (List.replicate cut (0 : Int)) (k : Int) = 0 := by simp [rd, List.getD_eq_getElem?_getD, List.getElem?_replicate]; split <;> rfl
    rw [this]; simp)]
  have e1 : (fun (q : Nat) => rd (List.replicate cut (0 : Int)) (q : Int)) = fun (q : Nat) => (0 : Int) := by
    funext q
    simp [rd, List.getD_eq_getElem?_getD, List.getElem?_replicate]
    split <;> rfl
  rw [e1]
  rfl
theorem reach_exr (cut : Nat) : ∀ (xs : List Int) (f : Nat) (s : Nat → Int) (m : Int), f < cut → ∃ v, Reach cut true xs f s m v
  | [], f, s, m, _ => ⟨m, rfl⟩
  | x :: xs, f, s, m, h => by
    obtain ⟨v, hv⟩ := reach_exr cut xs f (up s f (s f + x)) (mxG m (s f + x)) h
    exact ⟨v, f, Nat.le_refl _, h, hv⟩
theorem shd_give (t : List Int) (cut : Nat) (rising : Bool) (hb : timesB t = true) (hl : t.length ≤ 12) (hc : 0 < cut) : Shd t cut rising (giveC t cut rising).1 (giveC t cut rising).2 := by
  have hm := timesB_mem hb
  have hx0 : ∀ x ∈ t, 0 ≤ x := fun x hx => by have := hm x hx; omega
  have hf : fromG rising [] = 0 := by unfold fromG; rw [if_neg (by simp)]
  have hex : ∃ v, Reach cut rising t (fromG rising []) (fun _ => 0) 0 v := by
    rw [hf]
    cases rising with
    | false => exact reach_any cut hc t _ 0
    | true => exact reach_exr cut t 0 _ 0 hc
  obtain ⟨v1, hv1⟩ := hex
  have hle := (srch_least cut rising t [] (fun _ => 0) 0 ([], -1) (Int.le_refl _)).2
  have hw := srch_wit cut rising t [] (fun _ => 0) 0 ([], -1)
  rw [← give_is t cut rising hb hl] at hle hw
  have h0 := (hle v1 hv1).1
  rcases hw with hw | ⟨ys, e, hp⟩
  · rw [hw] at h0; exact absurd h0 (by decide)
  · rw [List.nil_append] at e
    rw [← e] at hp
    generalize giveC t cut rising = r at hle h0 hp
    obtain ⟨X, v⟩ := r
    dsimp only at hle h0 hp ⊢
    have hlen := path_len _ _ _ _ _ _ _ _ hp
    have hmem := path_mem _ _ _ _ _ _ _ _ hp
    obtain ⟨q1, q2⟩ := path_most _ _ _ _ _ _ _ _ hp hx0 (fun _ => Int.le_refl _) (Or.inl rfl)
    have hlong := reach_mx cut rising v t (fromG rising []) (fun _ => 0) 0 hx0 (fun _ => Int.le_refl _) (path_reach _ _ _ _ _ _ _ _ hp)
    refine ⟨hlen, hmem, fun hr => ?_, q1, q2, h0, fun Y m hr hY hYm hYb hm0 => ?_, hlong, ?_, ?_⟩
    · subst hr
      exact (path_rise _ _ _ _ _ _ _ hp).2
    · subst hr
      obtain ⟨v2, hv2⟩ := path_ex cut t Y (fun _ => 0) 0 hY hYm
      have := (hle v2 (path_reach _ _ _ _ _ _ _ _ hv2)).2
      obtain ⟨_, r2⟩ := path_most _ _ _ _ _ _ _ _ hv2 hx0 (fun _ => Int.le_refl _) (Or.inl rfl)
      rcases r2 with r2 | ⟨k, hk, r2⟩
      · omega
      · have := hYb k hk; omega
    · have h1 := fin_sum cut t X (fun _ => 0) hlen hmem
      rw [sumN_zero, Int.zero_add] at h1
      rw [← h1]
      exact sumN_le _ v q1 cut
    · constructor
      · intro hv
        cases t with
        | nil => rfl
        | cons x xs =>
          have a := hlong x (List.mem_cons_self ..)
          have b := hm x (List.mem_cons_self ..)
          omega
      · intro ht
        subst ht
        exact hp.2
end Go.Proofs.Ytcibhhkpnakkgaa.Pure
namespace Go.Proofs.Ytcibhhkpnakkgaa.Ext
open Go.RowKit Go.Proofs.Ytcibhhkpnakkgaa.Q Go.Proofs.YtcibhhkpnakkgaaW.PrintWords Go.Proofs.YtcibhhkpnakkgaaW.PrintLast Go.Proofs.YtcibhhkpnakkgaaW.PrintMore
set_option linter.unusedVariables false
set_option linter.unusedSimpArgs false
theorem pred_DaysFor (g : Nat) (day : Int) (w : World) (hg : w.heap[g]? = some (.cells #[.int .i64 day] 2 (0, 0))) : PredI 32 #[.pointer (some ⟨g, 0, none⟩)] (fun t => decide (day < t)) w := by
  intro W x hb
  have hc : W.cell? ⟨g, 0, none⟩ = some (.int .i64 day) := (blk_cell (blk_below hg hb) 0).trans rfl
  go_enter Try.func32, Try.ntmps32
  go_wp2
  go_ret
  exact ⟨rfl, hb⟩
def impl_DaysFor.f (l0 : List Int) (a1 : Int) : Option (List Int × Int × Int) :=
  (impl_timesCode.f l0 a1 100000 12).bind fun c => if c = 0 then (if l0.any (fun t => decide (a1 < t)) then some ([], 0, 6) else (impl_inOrder.f (l0.length + 1) l0 a1).bind fun out => if out.length = 0 then some (out, 0, 0) else some (out, wrap64 (rd out ((out.length - 1 : Nat) : Int) + 1), 0)) else some ([], 0, c)
set_option maxHeartbeats 1000000 in
theorem impl_DaysFor.calls (A0 : Option Addr) (c0 : Nat) (l0 : List Int) (a1 : Int) (r1 : List Int) (r2 : Int) (r3 : Int) (w : World) (hr0 : Kd.C (Kd.int .i64) w A0 l0.length l0) (hc0 : l0.length ≤ c0) (h : impl_DaysFor.f l0 a1 = some (r1, r2, r3)) :
    Calls Try.prog 11 #[.slice A0 l0.length c0, .int .i64 a1] w fun e w' => ∃ v0_ : Value, e = .returned (.tuple #[v0_, .int .i64 r2, .int .i64 r3]) ∧ Kd.R (Kd.int .i64) 2 w' w.heap.size (fun _ => True) v0_ r1 ∧ Below w.heap.size w w' := by
  have HR := Aside0.mk hr0
  have HC := Aside0.mk hc0
  clear hr0 hc0
  unfold impl_DaysFor.f at h
  obtain ⟨c, hcode, h⟩ := Option.bind_eq_some_iff.mp h
  have HCode := Aside0.mk hcode
  clear hcode
  by_cases hz : c = 0
  · subst hz
    rw [if_pos rfl] at h
    have H := Aside0.mk h
    clear h
    go_enter Try.func11, Try.ntmps11
    go_wp2_with fail
    refine (impl_timesCode.calls A0 c0 l0 a1 100000 12 0 _ (Kd.C_alloc HR.out _) HC.out HCode.out).mono ?_
    rintro e w1 ⟨rfl, hb⟩
    have B1 := Aside0.mk (blk_below (blk_new w (.cells #[.int .i64 a1] 2)) hb)
    have HB := Aside0.mk (below_step (below_alloc (Below.refl _ _) _) hb)
    clear hb
    have hcell : w1.cell? ⟨w.heap.size, 0, none⟩ = some (.int .i64 a1) := (blk_cell B1.out 0).trans rfl
    go_wp2_with fail
    refine (containsFunc_calls _ _ _ (enters_of Try.func32 (by kernel_rfl) rfl) _ _ _ _ (pred_DaysFor _ a1 _ B1.out) (Kd.C_below HR.out HB.out)).mono ?_
    rintro e w2 ⟨rfl, hb⟩
    replace B1 := Aside0.mk (blk_below B1.out hb)
    replace HB := Aside0.mk (below_step HB.out hb)
    clear hb hcell
    have hcell : w2.cell? ⟨w.heap.size, 0, none⟩ = some (.int .i64 a1) := (blk_cell B1.out 0).trans rfl
    have h := H.out
    clear H
    cases hany : l0.any (fun t => decide (a1 < t)) with
    | true =>
      rw [hany, if_pos rfl] at h
      injection h with h
      injection h with h1 h
      injection h with h2 h3
      subst h1 h2 h3
      go_wp2_with fail
      go_ret3
      exact ⟨_, rfl, Kd.R_nil _ _ _ _ _, HB.out⟩
    | false =>
      rw [hany, if_neg (by decide)] at h
      obtain ⟨out, hout, h⟩ := Option.bind_eq_some_iff.mp h
      have H := Aside0.mk h
      have HO := Aside0.mk hout
      clear h hout
      go_wp2_with fail
      refine (impl_inOrder.calls _ A0 c0 l0 a1 out _ (Kd.C_below HR.out HB.out) HC.out HO.out).mono ?_
      rintro e w3 ⟨v, rfl, hR, hb⟩
      have HRow := Aside0.mk (Kd.R_lower hR HB.out.size)
      replace HB := Aside0.mk (below_step HB.out hb)
      clear hR hb hcell
      obtain ⟨Ao, co, rfl⟩ := Kd.R_slice HRow.out
      have h := H.out
      clear H HO
      by_cases h0 : out.length = 0
      · rw [if_pos h0] at h
        injection h with h
        injection h with h1 h
        injection h with h2 h3
        subst h1 h2 h3
        have hz1 : ((out.length : Int) == 0) = true := beq_iff_eq.2 (by omega)
        have hz2 : (out.length == 0) = true := beq_iff_eq.2 h0
        clear h0
        go_wp2
        go_ret3
        exact ⟨_, rfl, (by (with_reducible repeat (first | apply Kd.R_alloc | apply Kd.R_drewN | apply Kd.R_drew)); exact HRow.out), (by repeat (first | (with_reducible first | exact HB.out | apply below_alloc | apply pw_below_drewN | apply below_drew1) | exact HB.out))⟩
      · rw [if_neg h0] at h
        injection h with h
        injection h with h1 h
        injection h with h2 h3
        subst h1 h2 h3
        have hz1 : ((out.length : Int) == 0) = false := beq_eq_false_iff_ne.2 (by omega)
        have hz2 : (out.length == 0) = false := beq_eq_false_iff_ne.2 h0
        obtain ⟨ad, e, hc⟩ := Kd.at_int (Kd.R_reads' HRow.out).2.2 ((out.length - 1 : Nat) : Int) (by omega) (by omega)
        subst e
        rw [Int.toNat_natCast] at hc
        have hm := (Kd.R_reads' HRow.out).2.2.2.1
        obtain ⟨y, hy⟩ : ∃ y, y = rd out ((out.length - 1 : Nat) : Int) := ⟨_, rfl⟩
        rw [← hy] at hc
        have HY := Aside0.mk hy
        clear hy
        have e1 : ((out.length : Int) - 1).toNat = out.length - 1 := by omega
        have p1 : 0 ≤ (out.length : Int) - 1 := by omega
        have p2 : (out.length : Int) - 1 < out.length := by omega
        go_wp2
        go_quiet (fail)
        go_wp2
        go_ret3
        rw [← HY.out]
        exact ⟨_, rfl, (by (with_reducible repeat (first | apply Kd.R_alloc | apply Kd.R_drewN | apply Kd.R_drew)); exact HRow.out), (by repeat (first | (with_reducible first | exact HB.out | apply below_alloc | apply pw_below_drewN | apply below_drew1) | exact HB.out))⟩
  · rw [if_neg hz] at h
    have hne : (c == 0) = false := by simpa using hz
    have hne2 : (c != 0) = true := by simpa using hz
    injection h with h
    injection h with h1 h
    injection h with h2 h3
    subst h1 h2 h3
    go_enter Try.func11, Try.ntmps11
    go_wp2_with fail
    refine (impl_timesCode.calls A0 c0 l0 a1 100000 12 c _ (Kd.C_alloc HR.out _) HC.out HCode.out).mono ?_
    rintro e w1 ⟨rfl, hb⟩
    have HB := Aside0.mk (below_step (below_alloc (Below.refl _ _) _) hb)
    clear hb
    go_wp2_with fail
    go_ret3
    exact ⟨_, rfl, Kd.R_nil _ _ _ _ _, HB.out⟩
end Go.Proofs.Ytcibhhkpnakkgaa.Ext
namespace Go.Proofs.Ytcibhhkpnakkgaa.Q
open Go.Proofs.Ytcibhhkpnakkgaa.Ext
open Go.RowKit Go.Proofs.YtcibhhkpnakkgaaW.PrintWords Go.Proofs.YtcibhhkpnakkgaaW.PrintLast Go.Proofs.YtcibhhkpnakkgaaW.PrintMore
attribute [local go_sem] max2_int min2_int max_two min_two max_three min_three max_four min_four
set_option linter.unusedVariables false
set_option linter.unusedSimpArgs false
mutual
def spec_DaysFor.l0 : Nat → List Int → Int → Int → Int → Option (List Int × Int × Int)
  | 0, _, _, _, _ => none
  | k + 1, x0, x1, x7, x8 => if x8 < (x0.length : Int) then (spec_DaysFor.j1 k x0 x1 x7 x8 (x7 == 0)) else (spec_DaysFor.j1 k x0 x1 x7 x8 false)
def spec_DaysFor.j1 : Nat → List Int → Int → Int → Int → Bool → Option (List Int × Int × Int)
  | 0, _, _, _, _, _ => none
  | k + 1, x0, x1, x7, x8, x24 => if x24 = true then (if 0 ≤ x8 then (if x8 < (x0.length : Int) then (if (rd x0 x8) > x1 then (spec_DaysFor.l0 k x0 x1 6 (wrap64 (x8 + 1))) else (spec_DaysFor.l0 k x0 x1 x7 (wrap64 (x8 + 1)))) else (none)) else (none)) else (if x7 = 0 then (spec_DaysFor.l1 k x0 x1 (([] : List Int)) (-1) 0 0) else (some ((([] : List Int)), 0, x7)))
def spec_DaysFor.l1 : Nat → List Int → Int → List Int → Int → Int → Int → Option (List Int × Int × Int)
  | 0, _, _, _, _, _, _ => none
  | k + 1, x0, x1, x9, x10, x11, x12 => if x12 < (x0.length : Int) then (if x10 < 0 then (if 0 ≤ x12 then (if x9.length < 17592186044416 then (spec_DaysFor.l1 k x0 x1 (x9 ++ [wrap64 (x10 + 1)]) (wrap64 (x10 + 1)) (wrap64 (x1 - (rd x0 x12))) (wrap64 (x12 + 1))) else (none)) else (none)) else (if 0 ≤ x12 then (if (rd x0 x12) > x11 then (if x9.length < 17592186044416 then (spec_DaysFor.l1 k x0 x1 (x9 ++ [wrap64 (x10 + 1)]) (wrap64 (x10 + 1)) (wrap64 (x1 - (rd x0 x12))) (wrap64 (x12 + 1))) else (none)) else (if x9.length < 17592186044416 then (spec_DaysFor.l1 k x0 x1 (x9 ++ [x10]) x10 (wrap64 (x11 - (rd x0 x12))) (wrap64 (x12 + 1))) else (none))) else (none))) else (some (x9, wrap64 (x10 + 1), 0))
end
def spec_DaysFor.f (k : Nat) (l0 : List Int) (a1 : Int) : Option (List Int × Int × Int) := (spec_l05Minutes.f a1).bind fun t156 => ((spec_l05Times.f k l0 t156 12).bind fun t157 => (spec_DaysFor.l0 k l0 a1 t157 0))
theorem spec_DaysFor.mono_l : ∀ k, (∀ y0 y1 y2 y3, LeO (spec_DaysFor.l0 k y0 y1 y2 y3) (spec_DaysFor.l0 (k + 1) y0 y1 y2 y3)) ∧ (∀ y0 y1 y2 y3 y4, LeO (spec_DaysFor.j1 k y0 y1 y2 y3 y4) (spec_DaysFor.j1 (k + 1) y0 y1 y2 y3 y4)) ∧ (∀ y0 y1 y2 y3 y4 y5, LeO (spec_DaysFor.l1 k y0 y1 y2 y3 y4 y5) (spec_DaysFor.l1 (k + 1) y0 y1 y2 y3 y4 y5))
  | 0 => ⟨fun _ _ _ _ r h => by simp [spec_DaysFor.l0] at h, fun _ _ _ _ _ r h => by simp [spec_DaysFor.j1] at h, fun _ _ _ _ _ _ r h => by simp [spec_DaysFor.l1] at h⟩
  | k + 1 => by
    obtain ⟨ih0, ih1, ih2⟩ := spec_DaysFor.mono_l k
    refine ⟨?_, ?_, ?_⟩
    · intro y0 y1 y2 y3
      unfold spec_DaysFor.l0
      repeat' first
      | (with_reducible exact ih0 _ _ _ _)
      | (with_reducible exact ih1 _ _ _ _ _)
      | (with_reducible exact ih2 _ _ _ _ _ _)
      | (with_reducible exact spec_l05Times.mono _ _ _ _)
      | (with_reducible exact LeO.refl _)
      | (with_reducible exact LeO.none _)
      | (with_reducible refine LeO.ite ?_ ?_)
      | (with_reducible refine LeO.bind ?_ (fun _ => ?_))
      | exact ih0 _ _ _ _
      | exact ih1 _ _ _ _ _
      | exact ih2 _ _ _ _ _ _
      | exact spec_l05Times.mono _ _ _ _
      | exact LeO.none _
      | refine LeO.ite ?_ ?_
      | refine LeO.bind ?_ (fun _ => ?_)
    · intro y0 y1 y2 y3 y4
      unfold spec_DaysFor.j1
      repeat' first
      | (with_reducible exact ih0 _ _ _ _)
      | (with_reducible exact ih1 _ _ _ _ _)
      | (with_reducible exact ih2 _ _ _ _ _ _)
      | (with_reducible exact spec_l05Times.mono _ _ _ _)
      | (with_reducible exact LeO.refl _)
      | (with_reducible exact LeO.none _)
      | (with_reducible refine LeO.ite ?_ ?_)
      | (with_reducible refine LeO.bind ?_ (fun _ => ?_))
      | exact ih0 _ _ _ _
      | exact ih1 _ _ _ _ _
      | exact ih2 _ _ _ _ _ _
      | exact spec_l05Times.mono _ _ _ _
      | exact LeO.none _
      | refine LeO.ite ?_ ?_
      | refine LeO.bind ?_ (fun _ => ?_)
    · intro y0 y1 y2 y3 y4 y5
      unfold spec_DaysFor.l1
      repeat' first
      | (with_reducible exact ih0 _ _ _ _)
      | (with_reducible exact ih1 _ _ _ _ _)
      | (with_reducible exact ih2 _ _ _ _ _ _)
      | (with_reducible exact spec_l05Times.mono _ _ _ _)
      | (with_reducible exact LeO.refl _)
      | (with_reducible exact LeO.none _)
      | (with_reducible refine LeO.ite ?_ ?_)
      | (with_reducible refine LeO.bind ?_ (fun _ => ?_))
      | exact ih0 _ _ _ _
      | exact ih1 _ _ _ _ _
      | exact ih2 _ _ _ _ _ _
      | exact spec_l05Times.mono _ _ _ _
      | exact LeO.none _
      | refine LeO.ite ?_ ?_
      | refine LeO.bind ?_ (fun _ => ?_)
theorem spec_DaysFor.mono : ∀ a0 a1 k, LeO (spec_DaysFor.f k a0 a1) (spec_DaysFor.f (k + 1) a0 a1) := by
  intro a0 a1 k
  obtain ⟨ih0, ih1, ih2⟩ := spec_DaysFor.mono_l k
  unfold spec_DaysFor.f
  repeat' first
      | (with_reducible exact ih0 _ _ _ _)
      | (with_reducible exact ih1 _ _ _ _ _)
      | (with_reducible exact ih2 _ _ _ _ _ _)
      | (with_reducible exact spec_l05Times.mono _ _ _ _)
      | (with_reducible exact LeO.refl _)
      | (with_reducible exact LeO.none _)
      | (with_reducible refine LeO.ite ?_ ?_)
      | (with_reducible refine LeO.bind ?_ (fun _ => ?_))
      | exact ih0 _ _ _ _
      | exact ih1 _ _ _ _ _
      | exact ih2 _ _ _ _ _ _
      | exact spec_l05Times.mono _ _ _ _
      | exact LeO.none _
      | refine LeO.ite ?_ ?_
      | refine LeO.bind ?_ (fun _ => ?_)
set_option maxHeartbeats 8000000 in
set_option maxRecDepth 100000 in
theorem spec_DaysFor.calls (k : Nat) (A0 : Option Addr) (c0 : Nat) (l0 : List Int) (a1 : Int) (r1 : List Int) (r2 : Int) (r3 : Int) (w : World) (hr0 : Kd.C (Kd.int .i64) w A0 l0.length l0) (hc0 : l0.length ≤ c0) (h : spec_DaysFor.f k l0 a1 = some (r1, r2, r3)) :
    Calls Try.prog 12 #[.slice A0 l0.length c0, .int .i64 a1] w fun e w' => ∃ v0_ : Value, e = .returned (.tuple #[v0_, .int .i64 r2, .int .i64 r3]) ∧ Kd.R (Kd.int .i64) 2 w' w.heap.size (fun _ => True) v0_ r1 ∧ Below w.heap.size w w' := by
  have HR0 := Aside0.mk hr0
  have HC0 := Aside0.mk hc0
  clear hr0 hc0
  have HB := Aside0.mk (Below.refl w.heap.size w)
  have H : ((spec_l05Minutes.f a1).bind fun t156 => ((spec_l05Times.f k l0 t156 12).bind fun t157 => (spec_DaysFor.l0 k l0 a1 t157 0))) = some (r1, r2, r3) := h
  clear h
  replace H := Option.bind_eq_some_iff.mp H
  obtain ⟨t156, A30, H⟩ := H
  replace H : ((spec_l05Times.f k l0 t156 12).bind fun t157 => (spec_DaysFor.l0 k l0 a1 t157 0)) = some (r1, r2, r3) := H
  have A3 := Aside0.mk A30
  clear A30
  replace H := Option.bind_eq_some_iff.mp H
  obtain ⟨t157, A40, H⟩ := H
  replace H : (spec_DaysFor.l0 k l0 a1 t157 0) = some (r1, r2, r3) := H
  have A4 := Aside0.mk A40
  clear A40
  have H' := Aside0.mk H
  clear H
  go_enter Try.func12, Try.ntmps12
  go_wp2_with (first | ((with_reducible refine gate_callee (f := 33) rfl ?_); refine goesL_ (some 15) rfl rfl Try.func33 (by kernel_rfl) rfl #[.int .i64 a1] rfl (by (try simp only [List.map_toArray, List.map_cons, List.map_nil]); first | done | rfl | (simp only [List.length_drop, List.length_take]; rfl)) ?_; (with_reducible refine (spec_l05Minutes.calls a1 t156 _ A3.out).mono ?_); rintro e w' ⟨rfl, ⟨nd, rfl⟩⟩; refine ⟨_, rfl, ?_⟩) | ((with_reducible refine gate_callee (f := 25) rfl ?_); refine goesL_ (some 16) rfl rfl Try.func25 (by kernel_rfl) rfl #[.slice A0 l0.length c0, .bool t156, .int .i64 12] rfl (by (try simp only [List.map_toArray, List.map_cons, List.map_nil]); first | done | rfl | (simp only [List.length_drop, List.length_take]; rfl)) ?_; (with_reducible refine (spec_l05Times.calls k _ _ l0 t156 12 t157 _ ?side1 ?side2 A4.out).mono ?_); (case side1 => repeat (first | exact HR0.out | (with_reducible refine Kd.C_alloc ?_ _) | (with_reducible refine Kd.C_drewN ?_ _) | (with_reducible refine Kd.C_drew ?_))); (case side2 => exact HC0.out); rintro e w' ⟨rfl, ⟨nd, rfl⟩⟩; refine ⟨_, rfl, ?_⟩))
  go_loopg [7, 8] k (fun kq v7 v8 w' => ∃ (x7_1 : Int) (x8_1 : Int), v7 = .int .i64 x7_1 ∧ v8 = .int .i64 x8_1 ∧ Aside0 (spec_DaysFor.l0 kq l0 a1 x7_1 x8_1 = some (r1, r2, r3)) ∧ Aside0 (kq ≤ k) ∧ Aside0 (Below w.heap.size w w'))
  case atStart => exact ⟨(t157), (0), (by first | rfl | (simp; done) | (simp [*]; done)), (by first | rfl | (simp; done) | (simp [*]; done)), H', ⟨Nat.le_refl _⟩, ⟨by repeat (first | (with_reducible first | exact HB.out | apply below_alloc | apply pw_below_drewN | apply below_drew1) | exact HB.out)⟩⟩
  case round =>
    clear H'
    try clear c1
    try clear c2
    try clear p2
    try clear c3
    obtain ⟨x7_1, x8_1, rfl, rfl, HA, HK1, HB⟩ := hrel
    cases gk with
    | zero => exact absurd HA.out (by simp [spec_DaysFor.l0])
    | succ k1 =>
      have H := HA.out
      clear HA
      simp only [spec_DaysFor.l0] at H
      have HC5 := Aside0.mk H
      clear H
      go_upto_region 3 with (fail)
      go_cut [24] (fun v24 wc => ∃ (kq : Nat) (x24_4 : Bool), v24 = .bool x24_4 ∧ Aside0 (spec_DaysFor.j1 kq l0 a1 x7_1 x8_1 x24_4 = some (r1, r2, r3)) ∧ Aside0 (kq ≤ k1) ∧ Aside0 (Below w.heap.size w wc))
      case first =>
        have H := HC5.out
        clear HC5
        by_cases c6 : x8_1 < (l0.length : Int)
        · rw [if_pos c6] at H
          have c6b0 : decide (x8_1 < (l0.length : Int)) = true := decide_eq_true c6
          clear c6
          (first | rw [c6b0] | (simp only [i64_w, i32_w]; rw [c6b0]) | skip)
          have H' := Aside0.mk H
          clear H
          go_wp2
          go_meet
          case rel => exact ⟨_, ((x7_1 == 0)), (by first | rfl | (simp; done) | (simp [*]; done)), H', ⟨by have := HK1.out; first | omega | exact Nat.le_refl _⟩, ⟨by repeat (first | (with_reducible first | exact HB.out | apply below_alloc | apply pw_below_drewN | apply below_drew1) | exact HB.out)⟩⟩
        · rw [if_neg c6] at H
          have c6b0 : decide (x8_1 < (l0.length : Int)) = false := decide_eq_false c6
          clear c6
          (first | rw [c6b0] | (simp only [i64_w, i32_w]; rw [c6b0]) | skip)
          have H' := Aside0.mk H
          clear H
          go_wp2
          go_meet
          case rel => exact ⟨_, (false), (by first | rfl | (simp; done) | (simp [*]; done)), H', ⟨by have := HK1.out; first | omega | exact Nat.le_refl _⟩, ⟨by repeat (first | (with_reducible first | exact HB.out | apply below_alloc | apply pw_below_drewN | apply below_drew1) | exact HB.out)⟩⟩
      case rest =>
        clear HC5
        try clear c1
        try clear c2
        try clear p2
        try clear c3
        try clear c6
        try clear c6b0
        try clear p2
        obtain ⟨kq, x24_4, rfl, HA, HJ4, HB⟩ := hcut
        cases kq with
        | zero => exact absurd HA.out (by simp [spec_DaysFor.j1])
        | succ kj4 =>
          have H := HA.out
          clear HA
          simp only [spec_DaysFor.j1] at H
          by_cases c7 : x24_4 = true
          · subst c7
            have H1 : (if 0 ≤ x8_1 then (if x8_1 < (l0.length : Int) then (if (rd l0 x8_1) > a1 then (spec_DaysFor.l0 kj4 l0 a1 6 (wrap64 (x8_1 + 1))) else (spec_DaysFor.l0 kj4 l0 a1 x7_1 (wrap64 (x8_1 + 1)))) else (none)) else (none)) = some (r1, r2, r3) := by rw [if_pos rfl] at H; exact H
            clear H
            have H := H1
            clear H1
            by_cases c8 : 0 ≤ x8_1
            · rw [if_pos c8] at H
              have c8b0 : decide (0 ≤ x8_1) = true := decide_eq_true c8
              clear c8
              by_cases c9 : x8_1 < (l0.length : Int)
              · rw [if_pos c9] at H
                have c9b0 : decide (x8_1 < (l0.length : Int)) = true := decide_eq_true c9
                clear c9
                by_cases c10 : (rd l0 x8_1) > a1
                · rw [if_pos c10] at H
                  have c10b0 : decide (a1 < (rd l0 x8_1)) = true := decide_eq_true c10
                  clear c10
                  have H' := Aside0.mk H
                  clear H
                  have p158 : 0 ≤ (x8_1 : Int) := of_decide_eq_true (by first | (with_reducible assumption) | assumption)
                  have q158 : x8_1 < (l0.length : Int) := of_decide_eq_true (by first | (with_reducible assumption) | assumption)
                  obtain ⟨ad158, e158, hx158_0⟩ := Kd.at_int HR0.out x8_1 p158 q158
                  cases e158
                  replace hx158_0 := (HB.out.cell (World.block_lt_of_cell? w _ hx158_0)).trans hx158_0
                  replace p158 := eq_true p158
                  replace q158 := eq_true q158
                  go_wp2
                  go_roundg kj4
                  case measure => have := HK1.out; have := HJ4.out; omega
                  case rel => exact ⟨(6), (wrap64 (x8_1 + 1)), (by first | rfl | (simp; done) | (simp [*]; done)), (by first | rfl | (simp; done) | (simp [*]; done)), H', ⟨by have := HK1.out; have := HJ4.out; omega⟩, ⟨by repeat (first | (with_reducible first | exact HB.out | apply below_alloc | apply pw_below_drewN | apply below_drew1) | exact HB.out)⟩⟩
                · rw [if_neg c10] at H
                  have c10b0 : decide (a1 < (rd l0 x8_1)) = false := decide_eq_false c10
                  clear c10
                  have H' := Aside0.mk H
                  clear H
                  have p158 : 0 ≤ (x8_1 : Int) := of_decide_eq_true (by first | (with_reducible assumption) | assumption)
                  have q158 : x8_1 < (l0.length : Int) := of_decide_eq_true (by first | (with_reducible assumption) | assumption)
                  obtain ⟨ad158, e158, hx158_0⟩ := Kd.at_int HR0.out x8_1 p158 q158
                  cases e158
                  replace hx158_0 := (HB.out.cell (World.block_lt_of_cell? w _ hx158_0)).trans hx158_0
                  replace p158 := eq_true p158
                  replace q158 := eq_true q158
                  go_wp2
                  go_roundg kj4
                  case measure => have := HK1.out; have := HJ4.out; omega
                  case rel => exact ⟨(x7_1), (wrap64 (x8_1 + 1)), (by first | rfl | (simp; done) | (simp [*]; done)), (by first | rfl | (simp; done) | (simp [*]; done)), H', ⟨by have := HK1.out; have := HJ4.out; omega⟩, ⟨by repeat (first | (with_reducible first | exact HB.out | apply below_alloc | apply pw_below_drewN | apply below_drew1) | exact HB.out)⟩⟩
              · rw [if_neg c9] at H
                exact absurd H (by simp)
            · rw [if_neg c8] at H
              exact absurd H (by simp)
          · replace c7 := Bool.eq_false_iff.mpr c7
            subst c7
            have H1 : (if x7_1 = 0 then (spec_DaysFor.l1 kj4 l0 a1 (([] : List Int)) (-1) 0 0) else (some ((([] : List Int)), 0, x7_1))) = some (r1, r2, r3) := by rw [if_neg (show ¬ (false = true) by decide)] at H; exact H
            clear H
            have H := H1
            clear H1
            by_cases c11 : x7_1 = 0
            · rw [if_pos c11] at H
              have c11b0 : (x7_1 == 0) = true := beq_iff_eq.mpr c11
              have c11b1 : (x7_1 != 0) = false := bne_eq_false_iff_eq.mpr c11
              clear c11
              obtain ⟨y162, hy162⟩ : ∃ y_ : List Int, y_ = (([] : List Int)) := ⟨_, rfl⟩
              replace H : (spec_DaysFor.l1 kj4 l0 a1 y162 (-1) 0 0) = some (r1, r2, r3) := by first | (rw [hy162]; with_reducible exact H) | (have H2_ := (Option.bind_some _ _).symm.trans H; rw [hy162]; with_reducible exact H2_) | (have H2_ := (Option.bind_some _ _).symm.trans H; with_reducible exact H2_) | with_reducible exact H | (rw [hy162]; exact H) | exact H
              have Ny162 := Aside0.mk hy162
              clear hy162
              have H' := Aside0.mk H
              clear H
              go_wp2_with (first | ((with_reducible refine gate_dst (N := 37) rfl ?_); refine Kd.R_lit (Kd.int .i64) _ 2 ?hg (N := 37) ?hd (xs := ([] : List Int)) (inner := []) (ok := fun _ => True) (okp := fun _ => True) ?hr ?hp (fun _ hk => hk) trivial (Below.refl _ _) (Nat.le_refl _) (by simp) ?_; (case hd => rfl); (case hg => rfl); (case hr => first | (go_simp; done) | (go_simp; rfl)); (case hp => exact (Reps.none _ _)); intro v163 w12 ho13 hb hg_ hnew_; clear hg_ hnew_; (first | rw [← Ny162.out] at ho13 | (simp only [Int.reduceToNat] at ho13; rw [← Ny162.out] at ho13)); have n0_ := Aside0.mk (Kd.R_lower ho13 (below_size (by repeat (first | (with_reducible first | exact HB.out | apply below_alloc | apply pw_below_drewN | apply below_drew1) | exact HB.out)))); have n1_ := Aside0.mk (below_step (by repeat (first | (with_reducible first | exact HB.out | apply below_alloc | apply pw_below_drewN | apply below_drew1) | exact HB.out)) hb); clear HB; have HO164 := n0_; have HB := n1_; clear n0_ n1_; clear hb ho13))
              go_loopg [9, 10, 11, 12] kj4 (fun kq v9 v10 v11 v12 w' => ∃ (x9_3 : List Int) (x10_3 x11_3 x12_3 : Int), v10 = .int .i64 x10_3 ∧ v11 = .int .i64 x11_3 ∧ v12 = .int .i64 x12_3 ∧ Aside0 (spec_DaysFor.l1 kq l0 a1 x9_3 x10_3 x11_3 x12_3 = some (r1, r2, r3)) ∧ Aside0 (kq ≤ kj4) ∧ Aside0 (Kd.R (Kd.int .i64) 2 w' w.heap.size (fun _ => True) v9 x9_3) ∧ Aside0 (Below w.heap.size w w'))
              case atStart => exact ⟨(y162), ((-1)), (0), (0), (by first | rfl | (simp; done) | (simp [*]; done)), (by first | rfl | (simp; done) | (simp [*]; done)), (by first | rfl | (simp; done) | (simp [*]; done)), H', ⟨Nat.le_refl _⟩, ⟨by (with_reducible repeat (first | apply Kd.R_alloc | apply Kd.R_drewN | apply Kd.R_drew)); exact HO164.out⟩, ⟨by repeat (first | (with_reducible first | exact HB.out | apply below_alloc | apply pw_below_drewN | apply below_drew1) | exact HB.out)⟩⟩
              case round =>
                clear H'
                try clear c1
                try clear p1
                try clear q1
                try clear hx1
                try clear c2
                try clear p2
                try clear c3
                try clear c6
                try clear c6b0
                try clear p6
                try clear c7
                try clear c8
                try clear c8b0
                try clear c9
                try clear c9b0
                try clear c10
                try clear c10b0
                try clear c11
                try clear c11b0
                try clear c11b1
                try clear c12
                try clear hx158_0
                try clear p158
                try clear p2
                try clear q158
                obtain ⟨x9_3, x10_3, x11_3, x12_3, rfl, rfl, rfl, HA, HK3, HO_9, HB⟩ := hrel
                cases gk with
                | zero => exact absurd HA.out (by simp [spec_DaysFor.l1])
                | succ k3 =>
                  have H := HA.out
                  clear HA
                  simp only [spec_DaysFor.l1] at H
                  by_cases c14 : x12_3 < (l0.length : Int)
                  · rw [if_pos c14] at H
                    have c14b0 : decide (x12_3 < (l0.length : Int)) = true := decide_eq_true c14
                    clear c14
                    by_cases c15 : x10_3 < 0
                    · rw [if_pos c15] at H
                      have c15b0 : decide (x10_3 < 0) = true := decide_eq_true c15
                      clear c15
                      by_cases c16 : 0 ≤ x12_3
                      · rw [if_pos c16] at H
                        have c16b0 : decide (0 ≤ x12_3) = true := decide_eq_true c16
                        clear c16
                        by_cases c17 : x9_3.length < 17592186044416
                        · rw [if_pos c17] at H
                          have LMc17 := Aside0.mk c17
                          clear c17
                          obtain ⟨y166, hy166⟩ : ∃ y_ : List Int, y_ = (x9_3 ++ [wrap64 (x10_3 + 1)]) := ⟨_, rfl⟩
                          replace H : (spec_DaysFor.l1 k3 l0 a1 y166 (wrap64 (x10_3 + 1)) (wrap64 (a1 - (rd l0 x12_3))) (wrap64 (x12_3 + 1))) = some (r1, r2, r3) := by first | (rw [hy166]; with_reducible exact H) | (have H2_ := (Option.bind_some _ _).symm.trans H; rw [hy166]; with_reducible exact H2_) | (have H2_ := (Option.bind_some _ _).symm.trans H; with_reducible exact H2_) | with_reducible exact H | (rw [hy166]; exact H) | exact H
                          have Ny166 := Aside0.mk hy166
                          clear hy166
                          have H' := Aside0.mk H
                          clear H
                          have p165 : 0 ≤ (x12_3 : Int) := of_decide_eq_true (by first | (with_reducible assumption) | assumption)
                          have q165 : x12_3 < (l0.length : Int) := of_decide_eq_true (by first | (with_reducible assumption) | assumption)
                          obtain ⟨ad165, e165, hx165_0⟩ := Kd.at_int HR0.out x12_3 p165 q165
                          cases e165
                          replace hx165_0 := (HB.out.cell (World.block_lt_of_cell? w _ hx165_0)).trans hx165_0
                          replace p165 := eq_true p165
                          replace q165 := eq_true q165
                          go_wp2_with (first | ((with_reducible refine gate_builtin (b := .append) (xs := #[.tmp 63, .tmp 65]) rfl ?_); at_builtin; refine Kd.R_append (Kd.int .i64) (w0 := w) w.heap.size rfl (.tmp 63) (.tmp 65) 24 2 (.int .i64 0) 8 rfl Try.underlying24 info2 rfl (by decide) (by omega) u9 x9_3 (wrap64 (x10_3 + 1)) [.int .i64 (wrap64 (x10_3 + 1))] (fun _ => True) (fun _ => False) rfl rfl ?aP (fun _ hk => hk.elim) ?aF ?aO ?aB ?aS ?aL ?_; (case aP => exact rfl); (case aB => exact (by repeat (first | (with_reducible first | exact HB.out | apply below_alloc | apply pw_below_drewN | apply below_drew1) | exact HB.out))); (case aF => exact (fun _ _ => trivial)); (case aO => exact (by (with_reducible repeat (first | apply Kd.R_alloc | apply Kd.R_drewN | apply Kd.R_drew)); exact HO_9.out)); (case aS => exact (below_size (by repeat (first | (with_reducible first | exact HB.out | apply below_alloc | apply pw_below_drewN | apply below_drew1) | exact HB.out)))); (case aL => have := LMc17.out; omega); intro v167 w18 ho hb hg hat; rw [← Ny166.out] at ho; have n0_ := Aside0.mk (hb); have n1_ := Aside0.mk (ho); clear HB; clear HO_9; have HB := n0_; have HO168 := n1_; clear n0_ n1_; clear ho hb hg hat))
                          go_roundg k3
                          case measure => have := HK1.out; have := HJ4.out; have := HK3.out; omega
                          case rel => exact ⟨(y166), (wrap64 (x10_3 + 1)), (wrap64 (a1 - (rd l0 x12_3))), (wrap64 (x12_3 + 1)), (by first | rfl | (simp; done) | (simp [*]; done)), (by first | rfl | (simp; done) | (simp [*]; done)), (by first | rfl | (simp; done) | (simp [*]; done)), H', ⟨by have := HK1.out; have := HJ4.out; have := HK3.out; omega⟩, ⟨by (with_reducible repeat (first | apply Kd.R_alloc | apply Kd.R_drewN | apply Kd.R_drew)); exact HO168.out⟩, ⟨by repeat (first | (with_reducible first | exact HB.out | apply below_alloc | apply pw_below_drewN | apply below_drew1) | exact HB.out)⟩⟩
                        · rw [if_neg c17] at H
                          exact absurd H (by simp)
                      · rw [if_neg c16] at H
                        exact absurd H (by simp)
                    · rw [if_neg c15] at H
                      have c15b0 : decide (x10_3 < 0) = false := decide_eq_false c15
                      clear c15
                      by_cases c19 : 0 ≤ x12_3
                      · rw [if_pos c19] at H
                        have c19b0 : decide (0 ≤ x12_3) = true := decide_eq_true c19
                        clear c19
                        by_cases c20 : (rd l0 x12_3) > x11_3
                        · rw [if_pos c20] at H
                          have c20b0 : decide (x11_3 < (rd l0 x12_3)) = true := decide_eq_true c20
                          clear c20
                          by_cases c21 : x9_3.length < 17592186044416
                          · rw [if_pos c21] at H
                            have LMc21 := Aside0.mk c21
                            clear c21
                            obtain ⟨y171, hy171⟩ : ∃ y_ : List Int, y_ = (x9_3 ++ [wrap64 (x10_3 + 1)]) := ⟨_, rfl⟩
                            replace H : (spec_DaysFor.l1 k3 l0 a1 y171 (wrap64 (x10_3 + 1)) (wrap64 (a1 - (rd l0 x12_3))) (wrap64 (x12_3 + 1))) = some (r1, r2, r3) := by first | (rw [hy171]; with_reducible exact H) | (have H2_ := (Option.bind_some _ _).symm.trans H; rw [hy171]; with_reducible exact H2_) | (have H2_ := (Option.bind_some _ _).symm.trans H; with_reducible exact H2_) | with_reducible exact H | (rw [hy171]; exact H) | exact H
                            have Ny171 := Aside0.mk hy171
                            clear hy171
                            have H' := Aside0.mk H
                            clear H
                            have p169 : 0 ≤ (x12_3 : Int) := of_decide_eq_true (by first | (with_reducible assumption) | assumption)
                            have q169 : x12_3 < (l0.length : Int) := of_decide_eq_true (by first | (with_reducible assumption) | assumption)
                            obtain ⟨ad169, e169, hx169_0⟩ := Kd.at_int HR0.out x12_3 p169 q169
                            cases e169
                            replace hx169_0 := (HB.out.cell (World.block_lt_of_cell? w _ hx169_0)).trans hx169_0
                            replace p169 := eq_true p169
                            replace q169 := eq_true q169
                            have p170 : 0 ≤ (x12_3 : Int) := of_decide_eq_true (by first | (with_reducible assumption) | assumption)
                            have q170 : x12_3 < (l0.length : Int) := of_decide_eq_true (by first | (with_reducible assumption) | assumption)
                            obtain ⟨ad170, e170, hx170_0⟩ := Kd.at_int HR0.out x12_3 p170 q170
                            obtain rfl : ad169 = ad170 := (by injection e170)
                            replace hx170_0 := (HB.out.cell (World.block_lt_of_cell? w _ hx170_0)).trans hx170_0
                            replace p170 := eq_true p170
                            replace q170 := eq_true q170
                            go_wp2_with (first | ((with_reducible refine gate_builtin (b := .append) (xs := #[.tmp 63, .tmp 65]) rfl ?_); at_builtin; refine Kd.R_append (Kd.int .i64) (w0 := w) w.heap.size rfl (.tmp 63) (.tmp 65) 24 2 (.int .i64 0) 8 rfl Try.underlying24 info2 rfl (by decide) (by omega) u9 x9_3 (wrap64 (x10_3 + 1)) [.int .i64 (wrap64 (x10_3 + 1))] (fun _ => True) (fun _ => False) rfl rfl ?aP (fun _ hk => hk.elim) ?aF ?aO ?aB ?aS ?aL ?_; (case aP => exact rfl); (case aB => exact (by repeat (first | (with_reducible first | exact HB.out | apply below_alloc | apply pw_below_drewN | apply below_drew1) | exact HB.out))); (case aF => exact (fun _ _ => trivial)); (case aO => exact (by (with_reducible repeat (first | apply Kd.R_alloc | apply Kd.R_drewN | apply Kd.R_drew)); exact HO_9.out)); (case aS => exact (below_size (by repeat (first | (with_reducible first | exact HB.out | apply below_alloc | apply pw_below_drewN | apply below_drew1) | exact HB.out)))); (case aL => have := LMc21.out; omega); intro v172 w22 ho hb hg hat; rw [← Ny171.out] at ho; have n0_ := Aside0.mk (hb); have n1_ := Aside0.mk (ho); clear HB; clear HO_9; have HB := n0_; have HO173 := n1_; clear n0_ n1_; clear ho hb hg hat))
                            go_roundg k3
                            case measure => have := HK1.out; have := HJ4.out; have := HK3.out; omega
                            case rel => exact ⟨(y171), (wrap64 (x10_3 + 1)), (wrap64 (a1 - (rd l0 x12_3))), (wrap64 (x12_3 + 1)), (by first | rfl | (simp; done) | (simp [*]; done)), (by first | rfl | (simp; done) | (simp [*]; done)), (by first | rfl | (simp; done) | (simp [*]; done)), H', ⟨by have := HK1.out; have := HJ4.out; have := HK3.out; omega⟩, ⟨by (with_reducible repeat (first | apply Kd.R_alloc | apply Kd.R_drewN | apply Kd.R_drew)); exact HO173.out⟩, ⟨by repeat (first | (with_reducible first | exact HB.out | apply below_alloc | apply pw_below_drewN | apply below_drew1) | exact HB.out)⟩⟩
                          · rw [if_neg c21] at H
                            exact absurd H (by simp)
                        · rw [if_neg c20] at H
                          have c20b0 : decide (x11_3 < (rd l0 x12_3)) = false := decide_eq_false c20
                          clear c20
                          by_cases c23 : x9_3.length < 17592186044416
                          · rw [if_pos c23] at H
                            have LMc23 := Aside0.mk c23
                            clear c23
                            obtain ⟨y175, hy175⟩ : ∃ y_ : List Int, y_ = (x9_3 ++ [x10_3]) := ⟨_, rfl⟩
                            replace H : (spec_DaysFor.l1 k3 l0 a1 y175 x10_3 (wrap64 (x11_3 - (rd l0 x12_3))) (wrap64 (x12_3 + 1))) = some (r1, r2, r3) := by first | (rw [hy175]; with_reducible exact H) | (have H2_ := (Option.bind_some _ _).symm.trans H; rw [hy175]; with_reducible exact H2_) | (have H2_ := (Option.bind_some _ _).symm.trans H; with_reducible exact H2_) | with_reducible exact H | (rw [hy175]; exact H) | exact H
                            have Ny175 := Aside0.mk hy175
                            clear hy175
                            have H' := Aside0.mk H
                            clear H
                            have p169 : 0 ≤ (x12_3 : Int) := of_decide_eq_true (by first | (with_reducible assumption) | assumption)
                            have q169 : x12_3 < (l0.length : Int) := of_decide_eq_true (by first | (with_reducible assumption) | assumption)
                            obtain ⟨ad169, e169, hx169_0⟩ := Kd.at_int HR0.out x12_3 p169 q169
                            cases e169
                            replace hx169_0 := (HB.out.cell (World.block_lt_of_cell? w _ hx169_0)).trans hx169_0
                            replace p169 := eq_true p169
                            replace q169 := eq_true q169
                            have p174 : 0 ≤ (x12_3 : Int) := of_decide_eq_true (by first | (with_reducible assumption) | assumption)
                            have q174 : x12_3 < (l0.length : Int) := of_decide_eq_true (by first | (with_reducible assumption) | assumption)
                            obtain ⟨ad174, e174, hx174_0⟩ := Kd.at_int HR0.out x12_3 p174 q174
                            obtain rfl : ad169 = ad174 := (by injection e174)
                            replace hx174_0 := (HB.out.cell (World.block_lt_of_cell? w _ hx174_0)).trans hx174_0
                            replace p174 := eq_true p174
                            replace q174 := eq_true q174
                            go_wp2_with (first | ((with_reducible refine gate_builtin (b := .append) (xs := #[.tmp 63, .tmp 65]) rfl ?_); at_builtin; refine Kd.R_append (Kd.int .i64) (w0 := w) w.heap.size rfl (.tmp 63) (.tmp 65) 24 2 (.int .i64 0) 8 rfl Try.underlying24 info2 rfl (by decide) (by omega) u9 x9_3 x10_3 [.int .i64 x10_3] (fun _ => True) (fun _ => False) rfl rfl ?aP (fun _ hk => hk.elim) ?aF ?aO ?aB ?aS ?aL ?_; (case aP => exact rfl); (case aB => exact (by repeat (first | (with_reducible first | exact HB.out | apply below_alloc | apply pw_below_drewN | apply below_drew1) | exact HB.out))); (case aF => exact (fun _ _ => trivial)); (case aO => exact (by (with_reducible repeat (first | apply Kd.R_alloc | apply Kd.R_drewN | apply Kd.R_drew)); exact HO_9.out)); (case aS => exact (below_size (by repeat (first | (with_reducible first | exact HB.out | apply below_alloc | apply pw_below_drewN | apply below_drew1) | exact HB.out)))); (case aL => have := LMc23.out; omega); intro v176 w24 ho hb hg hat; rw [← Ny175.out] at ho; have n0_ := Aside0.mk (hb); have n1_ := Aside0.mk (ho); clear HB; clear HO_9; have HB := n0_; have HO177 := n1_; clear n0_ n1_; clear ho hb hg hat))
                            go_roundg k3
                            case measure => have := HK1.out; have := HJ4.out; have := HK3.out; omega
                            case rel => exact ⟨(y175), (x10_3), (wrap64 (x11_3 - (rd l0 x12_3))), (wrap64 (x12_3 + 1)), (by first | rfl | (simp; done) | (simp [*]; done)), (by first | rfl | (simp; done) | (simp [*]; done)), (by first | rfl | (simp; done) | (simp [*]; done)), H', ⟨by have := HK1.out; have := HJ4.out; have := HK3.out; omega⟩, ⟨by (with_reducible repeat (first | apply Kd.R_alloc | apply Kd.R_drewN | apply Kd.R_drew)); exact HO177.out⟩, ⟨by repeat (first | (with_reducible first | exact HB.out | apply below_alloc | apply pw_below_drewN | apply below_drew1) | exact HB.out)⟩⟩
                          · rw [if_neg c23] at H
                            exact absurd H (by simp)
                      · rw [if_neg c19] at H
                        exact absurd H (by simp)
                  · rw [if_neg c14] at H
                    have c14b0 : decide (x12_3 < (l0.length : Int)) = false := decide_eq_false c14
                    clear c14
                    simp only [Option.some.injEq, Prod.mk.injEq] at H
                    obtain ⟨rfl, rfl, rfl⟩ := H
                    go_wp2
                    go_ret3
                    exact ⟨_, by first | rfl | (simp [errW_none, errW_some] <;> rfl) | (simp [*, errW_none, errW_some] <;> rfl), by (with_reducible repeat (first | apply Kd.R_alloc | apply Kd.R_drewN | apply Kd.R_drew)); exact HO_9.out, by repeat (first | (with_reducible first | exact HB.out | apply below_alloc | apply pw_below_drewN | apply below_drew1) | exact HB.out)⟩
            · rw [if_neg c11] at H
              have c11b0 : (x7_1 == 0) = false := beq_eq_false_iff_ne.mpr c11
              have c11b1 : (x7_1 != 0) = true := bne_iff_ne.mpr c11
              obtain ⟨y159, hy159⟩ : ∃ y_ : List Int, y_ = (([] : List Int)) := ⟨_, rfl⟩
              replace H : (some (y159, 0, x7_1)) = some (r1, r2, r3) := by first | (rw [hy159]; with_reducible exact H) | (have H2_ := (Option.bind_some _ _).symm.trans H; rw [hy159]; with_reducible exact H2_) | (have H2_ := (Option.bind_some _ _).symm.trans H; with_reducible exact H2_) | with_reducible exact H | (rw [hy159]; exact H) | exact H
              have Ny159 := Aside0.mk hy159
              clear hy159
              simp only [Option.some.injEq, Prod.mk.injEq] at H
              obtain ⟨rfl, rfl, rfl⟩ := H
              go_wp2_with (first | ((with_reducible refine gate_dst (N := 35) rfl ?_); refine Kd.R_lit (Kd.int .i64) _ 2 ?hg (N := 35) ?hd (xs := ([] : List Int)) (inner := []) (ok := fun _ => True) (okp := fun _ => True) ?hr ?hp (fun _ hk => hk) trivial (Below.refl _ _) (Nat.le_refl _) (by simp) ?_; (case hd => rfl); (case hg => rfl); (case hr => first | (go_simp; done) | (go_simp; rfl)); (case hp => exact (Reps.none _ _)); intro v160 w25 ho26 hb hg_ hnew_; clear hg_ hnew_; (first | rw [← Ny159.out] at ho26 | (simp only [Int.reduceToNat] at ho26; rw [← Ny159.out] at ho26)); have n0_ := Aside0.mk (Kd.R_lower ho26 (below_size (by repeat (first | (with_reducible first | exact HB.out | apply below_alloc | apply pw_below_drewN | apply below_drew1) | exact HB.out)))); have n1_ := Aside0.mk (below_step (by repeat (first | (with_reducible first | exact HB.out | apply below_alloc | apply pw_below_drewN | apply below_drew1) | exact HB.out)) hb); clear HB; have HO161 := n0_; have HB := n1_; clear n0_ n1_; clear hb ho26))
              go_ret3
              exact ⟨_, by first | rfl | (simp [errW_none, errW_some] <;> rfl) | (simp [*, errW_none, errW_some] <;> rfl), by (with_reducible repeat (first | apply Kd.R_alloc | apply Kd.R_drewN | apply Kd.R_drew)); exact HO161.out, by repeat (first | (with_reducible first | exact HB.out | apply below_alloc | apply pw_below_drewN | apply below_drew1) | exact HB.out)⟩
end Go.Proofs.Ytcibhhkpnakkgaa.Q
namespace Go.Proofs.Ytcibhhkpnakkgaa.Pure
open Go.RowKit Go.Proofs.Ytcibhhkpnakkgaa.Ext Go.Proofs.Ytcibhhkpnakkgaa.Q Go.Proofs.YtcibhhkpnakkgaaW.PrintWords Go.Proofs.YtcibhhkpnakkgaaW.PrintLast Go.Proofs.YtcibhhkpnakkgaaW.PrintMore
set_option linter.unusedVariables false
set_option linter.unusedSimpArgs false
def daysC (l : List Int) (day : Int) : List Int × Int × Int :=
  if timesC (inB day 1 100000) l 12 = 0 then if l.any (fun t => decide (day < t)) then ([], 0, 6) else (greedyI day 0 0 l, if l.length = 0 then 0 else lastI day 0 0 l + 1, 0) else ([], 0, timesC (inB day 1 100000) l 12)
theorem lastI_bd (m c s : Int) (l : List Int) : c ≤ lastI m c s l ∧ lastI m c s l ≤ c + l.length := by
  induction l generalizing c s with
  | nil => simp [lastI]
  | cons t ts ih =>
    rw [lastI]
    split
    · have := ih (c + 1) t; simp only [List.length_cons]; omega
    · have := ih c (s + t); simp only [List.length_cons]; omega
theorem impl_days_eq (l : List Int) (day : Int) : impl_DaysFor.f l day = some (daysC l day) := by
  unfold impl_DaysFor.f daysC
  rw [impl_times_eq]
  simp only [Option.bind_some]
  by_cases h : timesC (inB day 1 100000) l 12 = 0
  · rw [if_pos h, if_pos h]
    obtain ⟨_, hb, hl⟩ := timesC_zero h
    by_cases ha : l.any (fun t => decide (day < t)) = true
    · rw [if_pos ha, if_pos ha]
    · rw [if_neg ha, if_neg ha, order_eq l day hb (by omega) (by omega)]
      simp only [Option.bind_some, greedyI_len]
      by_cases h0 : l.length = 0
      · rw [if_pos h0, if_pos h0]
      · rw [if_neg h0, if_neg h0, greedyI_last _ _ _ _ (by omega)]
        have := lastI_bd day 0 0 l
        rw [w64 (by omega) (by omega)]
  · rw [if_neg h, if_neg h]
theorem days_l1 (l : List Int) (day : Int) (hb : timesB l = true) (hl : l.length ≤ 12) (hday : 1 ≤ day ∧ day ≤ 100000) : ∀ (d k n : Nat) (c s : Int) (out : List Int), n + d = l.length → d < k → out.length ≤ n → 0 ≤ c → c ≤ n → 0 ≤ s → s ≤ 100000 * n →
    spec_DaysFor.l1 k l day out c (day - s) n = some (out ++ greedyI day c s (l.drop n), lastI day c s (l.drop n) + 1, 0)
  | 0, k, n, c, s, out, hd, hk, ho, h1, h2, h3, h4 => by
    obtain ⟨k, rfl⟩ := some_k hk
    simp only [spec_DaysFor.l1]
    rw [if_neg (by omega), List.drop_eq_nil_of_le (by omega), w64 (by omega) (by omega)]
    simp [greedyI, lastI]
  | d + 1, k, n, c, s, out, hd, hk, ho, h1, h2, h3, h4 => by
    obtain ⟨k, rfl⟩ := some_k hk
    have ht := times_rd hb n (by omega)
    simp only [spec_DaysFor.l1]
    rw [if_pos (by omega), if_neg (by omega), if_pos (by omega), wrap_succ n (by omega), w64 (x := c + 1) (by omega) (by omega), w64 (x := day - rd l n) (by omega) (by omega), w64 (x := day - s - rd l n) (by omega) (by omega), drop_cons l n (by omega), greedyI, lastI]
    by_cases h : day < s + rd l n
    · rw [if_pos (by omega), if_pos (by omega), if_pos h, if_pos h, days_l1 l day hb hl hday d k (n + 1) _ _ _ (by omega) (by omega) (by simp; omega) (by omega) (by omega) (by omega) (by omega)]
      simp
    · rw [if_neg (by omega), if_pos (by omega), if_neg h, if_neg h, show day - s - rd l n = day - (s + rd l n) by omega, days_l1 l day hb hl hday d k (n + 1) _ _ _ (by omega) (by omega) (by simp; omega) (by omega) (by omega) (by omega) (by omega)]
      simp
theorem days_loop (l : List Int) (day : Int) (hb : timesB l = true) (hl : l.length ≤ 12) (hday : 1 ≤ day ∧ day ≤ 100000) (hle : ∀ n, n < l.length → rd l n ≤ day) {k : Nat} (hk : l.length < k) :
    spec_DaysFor.l1 k l day [] (-1) 0 0 = some (greedyI day 0 0 l, if l.length = 0 then 0 else lastI day 0 0 l + 1, 0) := by
  obtain ⟨k, rfl⟩ := some_k hk
  simp only [spec_DaysFor.l1]
  by_cases h0 : l.length = 0
  · obtain rfl : l = [] := List.eq_nil_of_length_eq_zero h0
    rw [if_neg (by simp), w64 (by omega) (by omega)]
    rfl
  · have ht := times_rd hb 0 (by omega)
    have hd := hle 0 (by omega)
    rw [if_pos (by omega), if_pos (by omega), if_pos (by omega), if_pos (by simp), if_neg h0]
    rw [show (wrap64 (-1 + 1)) = 0 from w64 (by omega) (by omega), show wrap64 (0 + 1) = ((1 : Nat) : Int) from w64 (by omega) (by omega)]
    have e0 : rd l ((0 : Nat) : Int) = rd l 0 := rfl
    rw [w64 (x := day - rd l 0) (by omega) (by omega)]
    rw [e0] at ht hd
    have := days_l1 l day hb hl hday (l.length - 1) k 1 0 (rd l 0) [0] (by omega) (by omega) (by simp) (by omega) (by omega) (by omega) (by omega)
    rw [List.nil_append, this]
    have e : l = rd l 0 :: l.drop 1 := by have := drop_cons l 0 (by omega); rw [List.drop_zero] at this; exact this
    have e1 : greedyI day 0 0 l = 0 :: greedyI day 0 (rd l 0) (l.drop 1) := by
      conv => lhs; rw [e]
      rw [greedyI, if_neg (by omega), Int.zero_add]
    have e2 : lastI day 0 0 l = lastI day 0 (rd l 0) (l.drop 1) := by
      conv => lhs; rw [e]
      rw [lastI, if_neg (by omega), Int.zero_add]
    rw [e1, e2]
    rfl
theorem days_l0 (l : List Int) (day : Int) (hl : l.length ≤ 1048576) : ∀ (d k n : Nat) (c : Int), n + d = l.length → 2 * d + 2 + l.length < k → (c = 0 → timesB l = true ∧ l.length ≤ 12 ∧ 1 ≤ day ∧ day ≤ 100000 ∧ ∀ j, j < n → rd l j ≤ day) →
    spec_DaysFor.l0 k l day c n = some (if c = 0 then if (l.drop n).any (fun t => decide (day < t)) then ([], 0, 6) else (greedyI day 0 0 l, if l.length = 0 then 0 else lastI day 0 0 l + 1, 0) else ([], 0, c))
  | 0, k, n, c, hd, hk, hc => by
    obtain ⟨k, rfl⟩ : ∃ m, k = m + 2 := ⟨k - 2, by omega⟩
    simp only [spec_DaysFor.l0]
    rw [if_neg (by omega), List.drop_eq_nil_of_le (by omega)]
    simp only [spec_DaysFor.j1, Bool.false_eq_true, if_false, List.any_nil]
    by_cases h : c = 0
    · obtain ⟨h1, h2, h3, h4, h5⟩ := hc h
      rw [if_pos h, if_pos h]
      exact days_loop l day h1 h2 ⟨h3, h4⟩ (fun j hj => h5 j (by omega)) (by omega)
    · rw [if_neg h, if_neg h]
  | d + 1, k, n, c, hd, hk, hc => by
    obtain ⟨k, rfl⟩ : ∃ m, k = m + 2 := ⟨k - 2, by omega⟩
    simp only [spec_DaysFor.l0]
    rw [if_pos (by omega), drop_cons l n (by omega)]
    simp only [spec_DaysFor.j1]
    by_cases h : c = 0
    · subst h
      obtain ⟨h1, h2, h3, h4, h5⟩ := hc rfl
      rw [if_pos (by decide), if_pos (by omega), if_pos (by omega), wrap_succ n (by omega)]
      by_cases hd2 : day < rd l n
      · rw [if_pos (by omega), days_l0 l day hl d k (n + 1) 6 (by omega) (by omega) (fun h => by omega)]
        simp [hd2]
      · rw [if_neg (by omega), days_l0 l day hl d k (n + 1) 0 (by omega) (by omega) (fun _ => ⟨h1, h2, h3, h4, fun j hj => by
          by_cases e : j = n
          · subst e; omega
          · exact h5 j (by omega)⟩)]
        simp [hd2]
    · rw [if_neg (by simpa using h), if_neg h, if_neg h]
theorem spec_days_eq {k : Nat} (l : List Int) (day : Int) (hl : l.length ≤ 1048576) (hk : 3 * l.length + 2 < k) : spec_DaysFor.f k l day = some (daysC l day) := by
  unfold spec_DaysFor.f daysC
  rw [minutes_eq]
  simp only [Option.bind_some]
  rw [spec_times_eq l _ 12 (by omega) hl (by omega)]
  simp only [Option.bind_some]
  have := days_l0 l day hl l.length k 0 (timesC (inB day 1 100000) l 12) (by omega) (by omega) (fun h => by
    obtain ⟨h1, h2, h3⟩ := timesC_zero h
    have := inB_iff.1 h1
    exact ⟨h2, by omega, this.1, this.2, fun j hj => by omega⟩)
  simpa using this
end Go.Proofs.Ytcibhhkpnakkgaa.Pure
namespace Go.Proofs.Ytcibhhkpnakkgaa.Ext
end Go.Proofs.Ytcibhhkpnakkgaa.Ext
namespace Go.Proofs.Ytcibhhkpnakkgaa.Q
open Go.Proofs.Ytcibhhkpnakkgaa.Ext
open Go.RowKit Go.Proofs.YtcibhhkpnakkgaaW.PrintWords Go.Proofs.YtcibhhkpnakkgaaW.PrintLast Go.Proofs.YtcibhhkpnakkgaaW.PrintMore
attribute [local go_sem] max2_int min2_int max_two min_two max_three min_three max_four min_four
set_option linter.unusedVariables false
set_option linter.unusedSimpArgs false
def impl_dueCode.f (l0 : List Int) (l1 : List Int) (a2 : Int) : Option (Int) := if (l1.length : Int) = (l0.length : Int) then ((slices_ContainsFunc_int64_int64_at_impl_dueCode_1.f l1 ()).bind fun t178 => (if t178 = true then (some 2) else ((impl_timesCode.f l0 1 1 a2).bind fun t179 => (some t179)))) else (some 2)
set_option maxHeartbeats 8000000 in
set_option maxRecDepth 100000 in
theorem impl_dueCode.calls (A0 : Option Addr) (c0 : Nat) (l0 : List Int) (A1 : Option Addr) (c1 : Nat) (l1 : List Int) (a2 : Int) (r : Int) (w : World) (hr0 : Kd.C (Kd.int .i64) w A0 l0.length l0) (hc0 : l0.length ≤ c0) (hr1 : Kd.C (Kd.int .i64) w A1 l1.length l1) (hc1 : l1.length ≤ c1) (h : impl_dueCode.f l0 l1 a2 = some r) :
    Calls Try.prog 35 #[.slice A0 l0.length c0, .slice A1 l1.length c1, .int .i64 a2] w fun e w' => e = .returned (.int .i64 r) ∧ Below w.heap.size w w' := by
  have HR0 := Aside0.mk hr0
  have HC0 := Aside0.mk hc0
  clear hr0 hc0
  have HR1 := Aside0.mk hr1
  have HC1 := Aside0.mk hc1
  clear hr1 hc1
  have HB := Aside0.mk (Below.refl w.heap.size w)
  have H : (if (l1.length : Int) = (l0.length : Int) then ((slices_ContainsFunc_int64_int64_at_impl_dueCode_1.f l1 ()).bind fun t178 => (if t178 = true then (some 2) else ((impl_timesCode.f l0 1 1 a2).bind fun t179 => (some t179)))) else (some 2)) = some r := h
  clear h
  by_cases c4 : (l1.length : Int) = (l0.length : Int)
  · rw [if_pos c4] at H
    have c4b0 : ((l1.length : Int) == (l0.length : Int)) = true := beq_iff_eq.mpr c4
    have c4b1 : ((l1.length : Int) != (l0.length : Int)) = false := bne_eq_false_iff_eq.mpr c4
    have c4b2 : (l1.length == l0.length) = true := by first | simpa using c4 | (simp at c4 ⊢; omega)
    clear c4
    replace H := Option.bind_eq_some_iff.mp H
    obtain ⟨t178, A50, H⟩ := H
    replace H : (if t178 = true then (some 2) else ((impl_timesCode.f l0 1 1 a2).bind fun t179 => (some t179))) = some r := H
    have A5 := Aside0.mk A50
    clear A50
    by_cases c6 : t178 = true
    · subst c6
      have H1 : (some 2) = some r := by rw [if_pos rfl] at H; exact H
      clear H
      have H := H1
      clear H1
      obtain rfl := Option.some.inj H
      go_enter Try.func35, Try.ntmps35
      go_wp2_with (first | (go_at_call 31; (with_reducible refine (slices_ContainsFunc_int64_int64_at_impl_dueCode_1.calls _ _ l1 () true _ ?side1 ?side2 A5.out).mono ?_); (case side1 => repeat (first | exact HR1.out | (with_reducible refine Kd.C_alloc ?_ _) | (with_reducible refine Kd.C_drewN ?_ _) | (with_reducible refine Kd.C_drew ?_))); (case side2 => exact HC1.out); rintro e w7 ⟨rfl, hb⟩; have n0_ := Aside0.mk (below_step (by repeat (first | (with_reducible first | exact HB.out | apply below_alloc | apply pw_below_drewN | apply below_drew1) | exact HB.out)) hb); clear HB; have HB := n0_; clear n0_; (try clear hb); (try clear hb2); (try clear hk); (try clear hi)))
      go_ret
      exact ⟨by first | rfl | (simp [errW_none, errW_some] <;> rfl) | (simp [*, errW_none, errW_some] <;> rfl), by repeat (first | (with_reducible first | exact HB.out | apply below_alloc | apply pw_below_drewN | apply below_drew1) | exact HB.out)⟩
    · replace c6 := Bool.eq_false_iff.mpr c6
      subst c6
      have H1 : ((impl_timesCode.f l0 1 1 a2).bind fun t179 => (some t179)) = some r := by rw [if_neg (show ¬ (false = true) by decide)] at H; exact H
      clear H
      have H := H1
      clear H1
      replace H := Option.bind_eq_some_iff.mp H
      obtain ⟨t179, A80, H⟩ := H
      replace H : (some t179) = some r := H
      have A8 := Aside0.mk A80
      clear A80
      obtain rfl := Option.some.inj H
      go_enter Try.func35, Try.ntmps35
      go_wp2_with (first | (go_at_call 31; (with_reducible refine (slices_ContainsFunc_int64_int64_at_impl_dueCode_1.calls _ _ l1 () false _ ?side1 ?side2 A5.out).mono ?_); (case side1 => repeat (first | exact HR1.out | (with_reducible refine Kd.C_alloc ?_ _) | (with_reducible refine Kd.C_drewN ?_ _) | (with_reducible refine Kd.C_drew ?_))); (case side2 => exact HC1.out); rintro e w9 ⟨rfl, hb⟩; have n0_ := Aside0.mk (below_step (by repeat (first | (with_reducible first | exact HB.out | apply below_alloc | apply pw_below_drewN | apply below_drew1) | exact HB.out)) hb); clear HB; have HB := n0_; clear n0_; (try clear hb); (try clear hb2); (try clear hk); (try clear hi)) | ((with_reducible refine gate_callee (f := 21) rfl ?_); refine goesL_ (some 18) rfl rfl Try.func21 (by kernel_rfl) rfl #[.slice A0 l0.length c0, .int .i64 1, .int .i64 1, .int .i64 a2] rfl (by (try simp only [List.map_toArray, List.map_cons, List.map_nil]); first | done | rfl | (simp only [List.length_drop, List.length_take]; rfl)) ?_; (with_reducible refine (impl_timesCode.calls _ _ l0 1 1 a2 t179 _ ?side1 ?side2 A8.out).mono ?_); (case side1 => repeat (first | exact (Kd.C_below HR0.out HB.out) | (with_reducible refine Kd.C_alloc ?_ _) | (with_reducible refine Kd.C_drewN ?_ _) | (with_reducible refine Kd.C_drew ?_))); (case side2 => exact HC0.out); rintro e w10 ⟨rfl, hb⟩; refine ⟨_, rfl, ?_⟩; have n0_ := Aside0.mk (below_step (by repeat (first | (with_reducible first | exact HB.out | apply below_alloc | apply pw_below_drewN | apply below_drew1) | exact HB.out)) hb); clear HB; have HB := n0_; clear n0_; (try clear hb); (try clear hb2); (try clear hk); (try clear hi)))
      go_ret
      exact ⟨by first | rfl | (simp [errW_none, errW_some] <;> rfl) | (simp [*, errW_none, errW_some] <;> rfl), by repeat (first | (with_reducible first | exact HB.out | apply below_alloc | apply pw_below_drewN | apply below_drew1) | exact HB.out)⟩
  · rw [if_neg c4] at H
    have c4b0 : ((l1.length : Int) == (l0.length : Int)) = false := beq_eq_false_iff_ne.mpr c4
    have c4b1 : ((l1.length : Int) != (l0.length : Int)) = true := bne_iff_ne.mpr c4
    have c4b2 : (l1.length == l0.length) = false := by first | simpa using c4 | (simp at c4 ⊢; omega)
    obtain rfl := Option.some.inj H
    go_enter Try.func35, Try.ntmps35
    go_wp2
    go_ret
    exact ⟨by first | rfl | (simp [errW_none, errW_some] <;> rfl) | (simp [*, errW_none, errW_some] <;> rfl), by repeat (first | (with_reducible first | exact HB.out | apply below_alloc | apply pw_below_drewN | apply below_drew1) | exact HB.out)⟩
end Go.Proofs.Ytcibhhkpnakkgaa.Q
namespace Go.Proofs.Ytcibhhkpnakkgaa.Ext
end Go.Proofs.Ytcibhhkpnakkgaa.Ext
namespace Go.Proofs.Ytcibhhkpnakkgaa.Q
open Go.Proofs.Ytcibhhkpnakkgaa.Ext
open Go.RowKit Go.Proofs.YtcibhhkpnakkgaaW.PrintWords Go.Proofs.YtcibhhkpnakkgaaW.PrintLast Go.Proofs.YtcibhhkpnakkgaaW.PrintMore
attribute [local go_sem] max2_int min2_int max_two min_two max_three min_three max_four min_four
set_option linter.unusedVariables false
set_option linter.unusedSimpArgs false
def impl_late.l0 : Nat → List Int → List Int → List Int → Int → List Int → Int → Int → Option (List Int)
  | 0, _, _, _, _, _, _, _ => none
  | k + 1, x0, x1, x7, x8, x12, x13, x14 => if x14 < x13 then (if 0 ≤ x14 then (if x14 < (x12.length : Int) then (if 0 ≤ (rd x12 x14) then (if (rd x12 x14) < (x0.length : Int) then (if (rd x12 x14) < (x1.length : Int) then (if (wrap64 (x8 + (rd x0 (rd x12 x14)))) > (rd x1 (rd x12 x14)) then (if x7.length < 17592186044416 then (impl_late.l0 k x0 x1 (x7 ++ [rd x12 x14]) (wrap64 (x8 + (rd x0 (rd x12 x14)))) x12 x13 (wrap64 (x14 + 1))) else (none)) else (impl_late.l0 k x0 x1 x7 (wrap64 (x8 + (rd x0 (rd x12 x14)))) x12 x13 (wrap64 (x14 + 1)))) else (none)) else (none)) else (none)) else (none)) else (none)) else (some x7)
def impl_late.f (k : Nat) (l0 : List Int) (l1 : List Int) (l2 : List Int) : Option (List Int) := impl_late.l0 k l0 l1 (([] : List Int)) 0 l2 (l2.length : Int) 0
theorem impl_late.mono_l : ∀ k, (∀ y0 y1 y2 y3 y4 y5 y6, LeO (impl_late.l0 k y0 y1 y2 y3 y4 y5 y6) (impl_late.l0 (k + 1) y0 y1 y2 y3 y4 y5 y6))
  | 0 => fun _ _ _ _ _ _ _ r h => by simp [impl_late.l0] at h
  | k + 1 => by
    have ih0 := impl_late.mono_l k
    · intro y0 y1 y2 y3 y4 y5 y6
      unfold impl_late.l0
      repeat' first
      | (with_reducible exact ih0 _ _ _ _ _ _ _)
      | (with_reducible exact LeO.refl _)
      | (with_reducible exact LeO.none _)
      | (with_reducible refine LeO.ite ?_ ?_)
      | (with_reducible refine LeO.bind ?_ (fun _ => ?_))
      | exact ih0 _ _ _ _ _ _ _
      | exact LeO.none _
      | refine LeO.ite ?_ ?_
      | refine LeO.bind ?_ (fun _ => ?_)
theorem impl_late.mono : ∀ a0 a1 a2 k, LeO (impl_late.f k a0 a1 a2) (impl_late.f (k + 1) a0 a1 a2) := by
  intro a0 a1 a2 k
  have ih0 := impl_late.mono_l k
  unfold impl_late.f
  repeat' first
      | (with_reducible exact ih0 _ _ _ _ _ _ _)
      | (with_reducible exact LeO.refl _)
      | (with_reducible exact LeO.none _)
      | (with_reducible refine LeO.ite ?_ ?_)
      | (with_reducible refine LeO.bind ?_ (fun _ => ?_))
      | exact ih0 _ _ _ _ _ _ _
      | exact LeO.none _
      | refine LeO.ite ?_ ?_
      | refine LeO.bind ?_ (fun _ => ?_)
set_option maxHeartbeats 8000000 in
set_option maxRecDepth 100000 in
theorem impl_late.calls (k : Nat) (A0 : Option Addr) (c0 : Nat) (l0 : List Int) (A1 : Option Addr) (c1 : Nat) (l1 : List Int) (A2 : Option Addr) (c2 : Nat) (l2 : List Int) (r : List Int) (w : World) (hr0 : Kd.C (Kd.int .i64) w A0 l0.length l0) (hc0 : l0.length ≤ c0) (hr1 : Kd.C (Kd.int .i64) w A1 l1.length l1) (hc1 : l1.length ≤ c1) (hr2 : Kd.C (Kd.int .i64) w A2 l2.length l2) (hc2 : l2.length ≤ c2) (h : impl_late.f k l0 l1 l2 = some r) :
    Calls Try.prog 36 #[.slice A0 l0.length c0, .slice A1 l1.length c1, .slice A2 l2.length c2] w fun e w' => ∃ v0_ : Value, e = .returned (v0_) ∧ Kd.R (Kd.int .i64) 2 w' w.heap.size (fun _ => True) v0_ r ∧ Below w.heap.size w w' := by
  have HR0 := Aside0.mk hr0
  have HC0 := Aside0.mk hc0
  clear hr0 hc0
  have HR1 := Aside0.mk hr1
  have HC1 := Aside0.mk hc1
  clear hr1 hc1
  have HR2 := Aside0.mk hr2
  have HC2 := Aside0.mk hc2
  clear hr2 hc2
  have HB := Aside0.mk (Below.refl w.heap.size w)
  have H : (impl_late.l0 k l0 l1 (([] : List Int)) 0 l2 (l2.length : Int) 0) = some r := h
  clear h
  obtain ⟨y180, hy180⟩ : ∃ y_ : List Int, y_ = (([] : List Int)) := ⟨_, rfl⟩
  replace H : (impl_late.l0 k l0 l1 y180 0 l2 (l2.length : Int) 0) = some r := by first | (rw [hy180]; with_reducible exact H) | (have H2_ := (Option.bind_some _ _).symm.trans H; rw [hy180]; with_reducible exact H2_) | (have H2_ := (Option.bind_some _ _).symm.trans H; with_reducible exact H2_) | with_reducible exact H | (rw [hy180]; exact H) | exact H
  have Ny180 := Aside0.mk hy180
  clear hy180
  have H' := Aside0.mk H
  clear H
  go_enter Try.func36, Try.ntmps36
  go_wp2_with (first | ((with_reducible refine gate_dst (N := 11) rfl ?_); refine Kd.R_lit (Kd.int .i64) _ 2 ?hg (N := 11) ?hd (xs := ([] : List Int)) (inner := []) (ok := fun _ => True) (okp := fun _ => True) ?hr ?hp (fun _ hk => hk) trivial (Below.refl _ _) (Nat.le_refl _) (by simp) ?_; (case hd => rfl); (case hg => rfl); (case hr => first | (go_simp; done) | (go_simp; rfl)); (case hp => exact (Reps.none _ _)); intro v181 w4 ho5 hb hg_ hnew_; clear hg_ hnew_; (first | rw [← Ny180.out] at ho5 | (simp only [Int.reduceToNat] at ho5; rw [← Ny180.out] at ho5)); have n0_ := Aside0.mk (Kd.R_lower ho5 (below_size (by repeat (first | (with_reducible first | exact HB.out | apply below_alloc | apply pw_below_drewN | apply below_drew1) | exact HB.out)))); have n1_ := Aside0.mk (below_step (by repeat (first | (with_reducible first | exact HB.out | apply below_alloc | apply pw_below_drewN | apply below_drew1) | exact HB.out)) hb); clear HB; have HO182 := n0_; have HB := n1_; clear n0_ n1_; clear hb ho5))
  go_loopg [7, 8, 14] k (fun kq v7 v8 v14 w' => ∃ (x7_1 : List Int) (x8_1 : Int) (x14_1 : Int), v8 = .int .i64 x8_1 ∧ v14 = .int .i64 x14_1 ∧ Aside0 (impl_late.l0 kq l0 l1 x7_1 x8_1 l2 (l2.length : Int) x14_1 = some r) ∧ Aside0 (kq ≤ k) ∧ Aside0 (Kd.R (Kd.int .i64) 2 w' w.heap.size (fun _ => True) v7 x7_1) ∧ Aside0 (Below w.heap.size w w'))
  case atStart => exact ⟨(y180), (0), (0), (by first | rfl | (simp; done) | (simp [*]; done)), (by first | rfl | (simp; done) | (simp [*]; done)), H', ⟨Nat.le_refl _⟩, ⟨by (with_reducible repeat (first | apply Kd.R_alloc | apply Kd.R_drewN | apply Kd.R_drew)); exact HO182.out⟩, ⟨by repeat (first | (with_reducible first | exact HB.out | apply below_alloc | apply pw_below_drewN | apply below_drew1) | exact HB.out)⟩⟩
  case round =>
    clear H'
    try clear c1
    try clear c2
    try clear p2
    try clear c3
    obtain ⟨x7_1, x8_1, x14_1, rfl, rfl, HA, HK1, HO_7, HB⟩ := hrel
    cases gk with
    | zero => exact absurd HA.out (by simp [impl_late.l0])
    | succ k1 =>
      have H := HA.out
      clear HA
      simp only [impl_late.l0] at H
      by_cases c6 : x14_1 < (l2.length : Int)
      · rw [if_pos c6] at H
        have c6b0 : decide (x14_1 < (l2.length : Int)) = true := decide_eq_true c6
        clear c6
        by_cases c7 : 0 ≤ x14_1
        · rw [if_pos c7] at H
          have c7b0 : decide (0 ≤ x14_1) = true := decide_eq_true c7
          clear c7
          by_cases c8 : x14_1 < (l2.length : Int)
          · rw [if_pos c8] at H
            have c8b0 : decide (x14_1 < (l2.length : Int)) = true := decide_eq_true c8
            clear c8
            by_cases c9 : 0 ≤ (rd l2 x14_1)
            · rw [if_pos c9] at H
              have c9b0 : decide (0 ≤ (rd l2 x14_1)) = true := decide_eq_true c9
              clear c9
              by_cases c10 : (rd l2 x14_1) < (l0.length : Int)
              · rw [if_pos c10] at H
                have c10b0 : decide ((rd l2 x14_1) < (l0.length : Int)) = true := decide_eq_true c10
                clear c10
                by_cases c11 : (rd l2 x14_1) < (l1.length : Int)
                · rw [if_pos c11] at H
                  have c11b0 : decide ((rd l2 x14_1) < (l1.length : Int)) = true := decide_eq_true c11
                  clear c11
                  by_cases c12 : (wrap64 (x8_1 + (rd l0 (rd l2 x14_1)))) > (rd l1 (rd l2 x14_1))
                  · rw [if_pos c12] at H
                    have c12b0 : decide ((rd l1 (rd l2 x14_1)) < (wrap64 (x8_1 + (rd l0 (rd l2 x14_1))))) = true := decide_eq_true c12
                    clear c12
                    by_cases c13 : x7_1.length < 17592186044416
                    · rw [if_pos c13] at H
                      have LMc13 := Aside0.mk c13
                      clear c13
                      obtain ⟨y186, hy186⟩ : ∃ y_ : List Int, y_ = (x7_1 ++ [rd l2 x14_1]) := ⟨_, rfl⟩
                      replace H : (impl_late.l0 k1 l0 l1 y186 (wrap64 (x8_1 + (rd l0 (rd l2 x14_1)))) l2 (l2.length : Int) (wrap64 (x14_1 + 1))) = some r := by first | (rw [hy186]; with_reducible exact H) | (have H2_ := (Option.bind_some _ _).symm.trans H; rw [hy186]; with_reducible exact H2_) | (have H2_ := (Option.bind_some _ _).symm.trans H; with_reducible exact H2_) | with_reducible exact H | (rw [hy186]; exact H) | exact H
                      have Ny186 := Aside0.mk hy186
                      clear hy186
                      have H' := Aside0.mk H
                      clear H
                      have p183 : 0 ≤ (x14_1 : Int) := of_decide_eq_true (by first | (with_reducible assumption) | assumption)
                      have q183 : x14_1 < (l2.length : Int) := of_decide_eq_true (by first | (with_reducible assumption) | assumption)
                      obtain ⟨ad183, e183, hx183_0⟩ := Kd.at_int HR2.out x14_1 p183 q183
                      cases e183
                      replace hx183_0 := (HB.out.cell (World.block_lt_of_cell? w _ hx183_0)).trans hx183_0
                      replace p183 := eq_true p183
                      replace q183 := eq_true q183
                      have p184 : 0 ≤ ((rd l2 x14_1) : Int) := of_decide_eq_true (by first | (with_reducible assumption) | assumption)
                      have q184 : (rd l2 x14_1) < (l0.length : Int) := of_decide_eq_true (by first | (with_reducible assumption) | assumption)
                      obtain ⟨ad184, e184, hx184_0⟩ := Kd.at_int HR0.out (rd l2 x14_1) p184 q184
                      cases e184
                      replace hx184_0 := (HB.out.cell (World.block_lt_of_cell? w _ hx184_0)).trans hx184_0
                      replace p184 := eq_true p184
                      replace q184 := eq_true q184
                      have p185 : 0 ≤ ((rd l2 x14_1) : Int) := of_decide_eq_true (by first | (with_reducible assumption) | assumption)
                      have q185 : (rd l2 x14_1) < (l1.length : Int) := of_decide_eq_true (by first | (with_reducible assumption) | assumption)
                      obtain ⟨ad185, e185, hx185_0⟩ := Kd.at_int HR1.out (rd l2 x14_1) p185 q185
                      cases e185
                      replace hx185_0 := (HB.out.cell (World.block_lt_of_cell? w _ hx185_0)).trans hx185_0
                      replace p185 := eq_true p185
                      replace q185 := eq_true q185
                      go_wp2_with (first | ((with_reducible refine gate_builtin (b := .append) (xs := #[.tmp 30, .tmp 32]) rfl ?_); at_builtin; refine Kd.R_append (Kd.int .i64) (w0 := w) w.heap.size rfl (.tmp 30) (.tmp 32) 24 2 (.int .i64 0) 8 rfl Try.underlying24 info2 rfl (by decide) (by omega) u7 x7_1 (rd l2 x14_1) [.int .i64 (rd l2 x14_1)] (fun _ => True) (fun _ => False) rfl rfl ?aP (fun _ hk => hk.elim) ?aF ?aO ?aB ?aS ?aL ?_; (case aP => exact rfl); (case aB => exact (by repeat (first | (with_reducible first | exact HB.out | apply below_alloc | apply pw_below_drewN | apply below_drew1) | exact HB.out))); (case aF => exact (fun _ _ => trivial)); (case aO => exact (by (with_reducible repeat (first | apply Kd.R_alloc | apply Kd.R_drewN | apply Kd.R_drew)); exact HO_7.out)); (case aS => exact (below_size (by repeat (first | (with_reducible first | exact HB.out | apply below_alloc | apply pw_below_drewN | apply below_drew1) | exact HB.out)))); (case aL => have := LMc13.out; omega); intro v187 w14 ho hb hg hat; rw [← Ny186.out] at ho; have n0_ := Aside0.mk (hb); have n1_ := Aside0.mk (ho); clear HB; clear HO_7; have HB := n0_; have HO188 := n1_; clear n0_ n1_; clear ho hb hg hat))
                      go_roundg k1
                      case measure => have := HK1.out; omega
                      case rel => exact ⟨(y186), (wrap64 (x8_1 + (rd l0 (rd l2 x14_1)))), (wrap64 (x14_1 + 1)), (by first | rfl | (simp; done) | (simp [*]; done)), (by first | rfl | (simp; done) | (simp [*]; done)), H', ⟨by have := HK1.out; omega⟩, ⟨by (with_reducible repeat (first | apply Kd.R_alloc | apply Kd.R_drewN | apply Kd.R_drew)); exact HO188.out⟩, ⟨by repeat (first | (with_reducible first | exact HB.out | apply below_alloc | apply pw_below_drewN | apply below_drew1) | exact HB.out)⟩⟩
                    · rw [if_neg c13] at H
                      exact absurd H (by simp)
                  · rw [if_neg c12] at H
                    have c12b0 : decide ((rd l1 (rd l2 x14_1)) < (wrap64 (x8_1 + (rd l0 (rd l2 x14_1))))) = false := decide_eq_false c12
                    clear c12
                    have H' := Aside0.mk H
                    clear H
                    have p183 : 0 ≤ (x14_1 : Int) := of_decide_eq_true (by first | (with_reducible assumption) | assumption)
                    have q183 : x14_1 < (l2.length : Int) := of_decide_eq_true (by first | (with_reducible assumption) | assumption)
                    obtain ⟨ad183, e183, hx183_0⟩ := Kd.at_int HR2.out x14_1 p183 q183
                    cases e183
                    replace hx183_0 := (HB.out.cell (World.block_lt_of_cell? w _ hx183_0)).trans hx183_0
                    replace p183 := eq_true p183
                    replace q183 := eq_true q183
                    have p184 : 0 ≤ ((rd l2 x14_1) : Int) := of_decide_eq_true (by first | (with_reducible assumption) | assumption)
                    have q184 : (rd l2 x14_1) < (l0.length : Int) := of_decide_eq_true (by first | (with_reducible assumption) | assumption)
                    obtain ⟨ad184, e184, hx184_0⟩ := Kd.at_int HR0.out (rd l2 x14_1) p184 q184
                    cases e184
                    replace hx184_0 := (HB.out.cell (World.block_lt_of_cell? w _ hx184_0)).trans hx184_0
                    replace p184 := eq_true p184
                    replace q184 := eq_true q184
                    have p185 : 0 ≤ ((rd l2 x14_1) : Int) := of_decide_eq_true (by first | (with_reducible assumption) | assumption)
                    have q185 : (rd l2 x14_1) < (l1.length : Int) := of_decide_eq_true (by first | (with_reducible assumption) | assumption)
                    obtain ⟨ad185, e185, hx185_0⟩ := Kd.at_int HR1.out (rd l2 x14_1) p185 q185
                    cases e185
                    replace hx185_0 := (HB.out.cell (World.block_lt_of_cell? w _ hx185_0)).trans hx185_0
                    replace p185 := eq_true p185
                    replace q185 := eq_true q185
                    go_wp2
                    go_roundg k1
                    case measure => have := HK1.out; omega
                    case rel => exact ⟨(x7_1), (wrap64 (x8_1 + (rd l0 (rd l2 x14_1)))), (wrap64 (x14_1 + 1)), (by first | rfl | (simp; done) | (simp [*]; done)), (by first | rfl | (simp; done) | (simp [*]; done)), H', ⟨by have := HK1.out; omega⟩, ⟨by (with_reducible repeat (first | apply Kd.R_alloc | apply Kd.R_drewN | apply Kd.R_drew)); exact HO_7.out⟩, ⟨by repeat (first | (with_reducible first | exact HB.out | apply below_alloc | apply pw_below_drewN | apply below_drew1) | exact HB.out)⟩⟩
                · rw [if_neg c11] at H
                  exact absurd H (by simp)
              · rw [if_neg c10] at H
                exact absurd H (by simp)
            · rw [if_neg c9] at H
              exact absurd H (by simp)
          · rw [if_neg c8] at H
            exact absurd H (by simp)
        · rw [if_neg c7] at H
          exact absurd H (by simp)
      · rw [if_neg c6] at H
        have c6b0 : decide (x14_1 < (l2.length : Int)) = false := decide_eq_false c6
        clear c6
        obtain rfl := Option.some.inj H
        go_wp2
        go_ret
        exact ⟨_, by first | rfl | (simp [errW_none, errW_some] <;> rfl) | (simp [*, errW_none, errW_some] <;> rfl), by (with_reducible repeat (first | apply Kd.R_alloc | apply Kd.R_drewN | apply Kd.R_drew)); exact HO_7.out, by repeat (first | (with_reducible first | exact HB.out | apply below_alloc | apply pw_below_drewN | apply below_drew1) | exact HB.out)⟩
end Go.Proofs.Ytcibhhkpnakkgaa.Q
namespace Go.Proofs.Ytcibhhkpnakkgaa.Ext
end Go.Proofs.Ytcibhhkpnakkgaa.Ext
namespace Go.Proofs.Ytcibhhkpnakkgaa.Q
open Go.Proofs.Ytcibhhkpnakkgaa.Ext
open Go.RowKit Go.Proofs.YtcibhhkpnakkgaaW.PrintWords Go.Proofs.YtcibhhkpnakkgaaW.PrintLast Go.Proofs.YtcibhhkpnakkgaaW.PrintMore
attribute [local go_sem] max2_int min2_int max_two min_two max_three min_three max_four min_four
set_option linter.unusedVariables false
set_option linter.unusedSimpArgs false
def impl_LateLines.f (k : Nat) (l0 : List Int) (l1 : List Int) : Option (List Int × Int) := (impl_dueCode.f l0 l1 12).bind fun t189 => (if t189 = 0 then ((impl_indices_at_impl_LateLines_1.f (l0.length : Int) ()).bind fun t190 => ((impl_late.f k l0 l1 t190).bind fun t193 => (some (t193, 0)))) else (some (([] : List Int), t189)))
theorem impl_LateLines.mono : ∀ a0 a1 k, LeO (impl_LateLines.f k a0 a1) (impl_LateLines.f (k + 1) a0 a1) := by
  intro a0 a1 k
  unfold impl_LateLines.f
  repeat' first
      | (with_reducible exact impl_late.mono _ _ _ _)
      | (with_reducible exact LeO.refl _)
      | (with_reducible exact LeO.none _)
      | (with_reducible refine LeO.ite ?_ ?_)
      | (with_reducible refine LeO.bind ?_ (fun _ => ?_))
      | exact impl_late.mono _ _ _ _
      | exact LeO.none _
      | refine LeO.ite ?_ ?_
      | refine LeO.bind ?_ (fun _ => ?_)
set_option maxHeartbeats 8000000 in
set_option maxRecDepth 100000 in
theorem impl_LateLines.calls (k : Nat) (A0 : Option Addr) (c0 : Nat) (l0 : List Int) (A1 : Option Addr) (c1 : Nat) (l1 : List Int) (r1 : List Int) (r2 : Int) (w : World) (hr0 : Kd.C (Kd.int .i64) w A0 l0.length l0) (hc0 : l0.length ≤ c0) (hr1 : Kd.C (Kd.int .i64) w A1 l1.length l1) (hc1 : l1.length ≤ c1) (h : impl_LateLines.f k l0 l1 = some (r1, r2)) :
    Calls Try.prog 14 #[.slice A0 l0.length c0, .slice A1 l1.length c1] w fun e w' => ∃ v0_ : Value, e = .returned (.tuple #[v0_, .int .i64 r2]) ∧ Kd.R (Kd.int .i64) 2 w' w.heap.size (fun _ => True) v0_ r1 ∧ Below w.heap.size w w' := by
  have HR0 := Aside0.mk hr0
  have HC0 := Aside0.mk hc0
  clear hr0 hc0
  have HR1 := Aside0.mk hr1
  have HC1 := Aside0.mk hc1
  clear hr1 hc1
  have HB := Aside0.mk (Below.refl w.heap.size w)
  have H : ((impl_dueCode.f l0 l1 12).bind fun t189 => (if t189 = 0 then ((impl_indices_at_impl_LateLines_1.f (l0.length : Int) ()).bind fun t190 => ((impl_late.f k l0 l1 t190).bind fun t193 => (some (t193, 0)))) else (some (([] : List Int), t189)))) = some (r1, r2) := h
  clear h
  replace H := Option.bind_eq_some_iff.mp H
  obtain ⟨t189, A30, H⟩ := H
  replace H : (if t189 = 0 then ((impl_indices_at_impl_LateLines_1.f (l0.length : Int) ()).bind fun t190 => ((impl_late.f k l0 l1 t190).bind fun t193 => (some (t193, 0)))) else (some (([] : List Int), t189))) = some (r1, r2) := H
  have A3 := Aside0.mk A30
  clear A30
  by_cases c4 : t189 = 0
  · rw [if_pos c4] at H
    have c4b0 : (t189 == 0) = true := beq_iff_eq.mpr c4
    have c4b1 : (t189 != 0) = false := bne_eq_false_iff_eq.mpr c4
    clear c4
    replace H := Option.bind_eq_some_iff.mp H
    obtain ⟨t190, A50, H⟩ := H
    replace H : ((impl_late.f k l0 l1 t190).bind fun t193 => (some (t193, 0))) = some (r1, r2) := H
    have A5 := Aside0.mk A50
    clear A50
    replace H := Option.bind_eq_some_iff.mp H
    obtain ⟨t193, A60, H⟩ := H
    replace H : (some (t193, 0)) = some (r1, r2) := H
    have A6 := Aside0.mk A60
    clear A60
    simp only [Option.some.injEq, Prod.mk.injEq] at H
    obtain ⟨rfl, rfl⟩ := H
    go_enter Try.func14, Try.ntmps14
    go_wp2_with (first | ((with_reducible refine gate_callee (f := 35) rfl ?_); refine goesL_ (some 9) rfl rfl Try.func35 (by kernel_rfl) rfl #[.slice A0 l0.length c0, .slice A1 l1.length c1, .int .i64 12] rfl (by (try simp only [List.map_toArray, List.map_cons, List.map_nil]); first | done | rfl | (simp only [List.length_drop, List.length_take]; rfl)) ?_; (with_reducible refine (impl_dueCode.calls _ _ l0 _ _ l1 12 t189 _ ?side1 ?side2 ?side3 ?side4 A3.out).mono ?_); (case side1 => repeat (first | exact HR0.out | (with_reducible refine Kd.C_alloc ?_ _) | (with_reducible refine Kd.C_drewN ?_ _) | (with_reducible refine Kd.C_drew ?_))); (case side2 => exact HC0.out); (case side3 => repeat (first | exact HR1.out | (with_reducible refine Kd.C_alloc ?_ _) | (with_reducible refine Kd.C_drewN ?_ _) | (with_reducible refine Kd.C_drew ?_))); (case side4 => exact HC1.out); rintro e w7 ⟨rfl, hb⟩; refine ⟨_, rfl, ?_⟩; have n0_ := Aside0.mk (below_step (by repeat (first | (with_reducible first | exact HB.out | apply below_alloc | apply pw_below_drewN | apply below_drew1) | exact HB.out)) hb); clear HB; have HB := n0_; clear n0_; (try clear hb); (try clear hb2); (try clear hk); (try clear hi)) | ((with_reducible refine gate_callee (f := 37) rfl ?_); refine goesL_ (some 17) rfl rfl Try.func37 (by kernel_rfl) rfl #[.int .i64 (l0.length : Int), .func (.func 38) #[] #[]] rfl (by (try simp only [List.map_toArray, List.map_cons, List.map_nil]); first | done | rfl | (simp only [List.length_drop, List.length_take]; rfl)) ?_; (with_reducible refine (impl_indices_at_impl_LateLines_1.calls (l0.length : Int) () t190 _ A5.out).mono ?_); rintro e w8 ⟨v191, rfl, ho0, hb⟩; refine ⟨_, rfl, ?_⟩; have n0_ := Aside0.mk (Kd.R_lower ho0 (below_size (by repeat (first | (with_reducible first | exact HB.out | apply below_alloc | apply pw_below_drewN | apply below_drew1) | exact HB.out)))); have n1_ := Aside0.mk (below_step (by repeat (first | (with_reducible first | exact HB.out | apply below_alloc | apply pw_below_drewN | apply below_drew1) | exact HB.out)) hb); clear HB; have HO192 := n0_; have HB := n1_; clear n0_ n1_; (try clear hb); (try clear hb2); (try clear hk); (try clear hi); (try clear ho0); obtain ⟨Ao9, co9, eo9⟩ := Kd.R_slice HO192.out; subst eo9) | ((with_reducible refine gate_callee (f := 36) rfl ?_); refine goesL_ (some 18) rfl rfl Try.func36 (by kernel_rfl) rfl #[.slice A0 l0.length c0, .slice A1 l1.length c1, .slice Ao9 t190.length co9] rfl (by (try simp only [List.map_toArray, List.map_cons, List.map_nil]); first | done | rfl | (simp only [List.length_drop, List.length_take]; rfl)) ?_; (with_reducible refine (impl_late.calls k _ _ l0 _ _ l1 _ _ t190 t193 _ ?side1 ?side2 ?side3 ?side4 ?side5 ?side6 A6.out).mono ?_); (case side1 => repeat (first | exact (Kd.C_below HR0.out HB.out) | (with_reducible refine Kd.C_alloc ?_ _) | (with_reducible refine Kd.C_drewN ?_ _) | (with_reducible refine Kd.C_drew ?_))); (case side2 => exact HC0.out); (case side3 => repeat (first | exact (Kd.C_below HR1.out HB.out) | (with_reducible refine Kd.C_alloc ?_ _) | (with_reducible refine Kd.C_drewN ?_ _) | (with_reducible refine Kd.C_drew ?_))); (case side4 => exact HC1.out); (case side5 => repeat (first | exact (Kd.R_reads' HO192.out).2.2 | (with_reducible refine Kd.C_alloc ?_ _) | (with_reducible refine Kd.C_drewN ?_ _) | (with_reducible refine Kd.C_drew ?_))); (case side6 => exact (Kd.R_reads' HO192.out).2.1); rintro e w10 ⟨v194, rfl, ho0, hb⟩; refine ⟨_, rfl, ?_⟩; have n0_ := Aside0.mk (Kd.R_elder' (by (with_reducible repeat (first | apply Kd.R_alloc | apply Kd.R_drewN | apply Kd.R_drew)); exact HO192.out) (Kd.R_base ho0) hb); have n1_ := Aside0.mk (Kd.R_lower (Kd.R_new' ho0 (Kd.R_lt (by (with_reducible repeat (first | apply Kd.R_alloc | apply Kd.R_drewN | apply Kd.R_drew)); exact HO192.out))) (below_size (by repeat (first | (with_reducible first | exact HB.out | apply below_alloc | apply pw_below_drewN | apply below_drew1) | exact HB.out)))); have n2_ := Aside0.mk (below_step (by repeat (first | (with_reducible first | exact HB.out | apply below_alloc | apply pw_below_drewN | apply below_drew1) | exact HB.out)) hb); clear HO192; clear HB; have HO192 := n0_; have HO195 := n1_; have HB := n2_; clear n0_ n1_ n2_; (try clear hb); (try clear hb2); (try clear hk); (try clear hi); (try clear ho0)))
    go_ret2
    exact ⟨_, by first | rfl | (simp [errW_none, errW_some] <;> rfl) | (simp [*, errW_none, errW_some] <;> rfl), by (with_reducible repeat (first | apply Kd.R_alloc | apply Kd.R_drewN | apply Kd.R_drew)); exact Kd.R_mono HO195.out (fun _ hk => trivial), by repeat (first | (with_reducible first | exact HB.out | apply below_alloc | apply pw_below_drewN | apply below_drew1) | exact HB.out)⟩
  · rw [if_neg c4] at H
    have c4b0 : (t189 == 0) = false := beq_eq_false_iff_ne.mpr c4
    have c4b1 : (t189 != 0) = true := bne_iff_ne.mpr c4
    simp only [Option.some.injEq, Prod.mk.injEq] at H
    obtain ⟨rfl, rfl⟩ := H
    go_enter Try.func14, Try.ntmps14
    go_wp2_with (first | ((with_reducible refine gate_callee (f := 35) rfl ?_); refine goesL_ (some 9) rfl rfl Try.func35 (by kernel_rfl) rfl #[.slice A0 l0.length c0, .slice A1 l1.length c1, .int .i64 12] rfl (by (try simp only [List.map_toArray, List.map_cons, List.map_nil]); first | done | rfl | (simp only [List.length_drop, List.length_take]; rfl)) ?_; (with_reducible refine (impl_dueCode.calls _ _ l0 _ _ l1 12 t189 _ ?side1 ?side2 ?side3 ?side4 A3.out).mono ?_); (case side1 => repeat (first | exact HR0.out | (with_reducible refine Kd.C_alloc ?_ _) | (with_reducible refine Kd.C_drewN ?_ _) | (with_reducible refine Kd.C_drew ?_))); (case side2 => exact HC0.out); (case side3 => repeat (first | exact HR1.out | (with_reducible refine Kd.C_alloc ?_ _) | (with_reducible refine Kd.C_drewN ?_ _) | (with_reducible refine Kd.C_drew ?_))); (case side4 => exact HC1.out); rintro e w11 ⟨rfl, hb⟩; refine ⟨_, rfl, ?_⟩; have n0_ := Aside0.mk (below_step (by repeat (first | (with_reducible first | exact HB.out | apply below_alloc | apply pw_below_drewN | apply below_drew1) | exact HB.out)) hb); clear HB; have HB := n0_; clear n0_; (try clear hb); (try clear hb2); (try clear hk); (try clear hi)))
    go_ret2
    exact ⟨_, by first | rfl | (simp [errW_none, errW_some] <;> rfl) | (simp [*, errW_none, errW_some] <;> rfl), by first | exact Kd.R_nil _ _ _ _ _ | exact Kd.N_nil _ _ _ _ _ | exact Kd.V_nil _ _ _ _ _ | exact Kd.Q_nil _ _ _ _ _ | exact Kd.S_nil _ _ _ _ _, by repeat (first | (with_reducible first | exact HB.out | apply below_alloc | apply pw_below_drewN | apply below_drew1) | exact HB.out)⟩
def spec_l05Dues.l0 : Nat → List Int → List Int → Int → Option (Bool)
  | 0, _, _, _ => none
  | k + 1, x0, x1, x5 => if x5 < (x1.length : Int) then (if 0 ≤ x5 then ((spec_l00In.f (rd x1 x5) 0 1200000).bind fun t197 => (if t197 = true then (spec_l05Dues.l0 k x0 x1 (wrap64 (x5 + 1))) else (some false))) else (none)) else (some ((x0.length : Int) == (x1.length : Int)))
def spec_l05Dues.f (k : Nat) (l0 : List Int) (l1 : List Int) : Option (Bool) := spec_l05Dues.l0 k l0 l1 0
theorem spec_l05Dues.mono_l : ∀ k, (∀ y0 y1 y2, LeO (spec_l05Dues.l0 k y0 y1 y2) (spec_l05Dues.l0 (k + 1) y0 y1 y2))
  | 0 => fun _ _ _ r h => by simp [spec_l05Dues.l0] at h
  | k + 1 => by
    have ih0 := spec_l05Dues.mono_l k
    · intro y0 y1 y2
      unfold spec_l05Dues.l0
      repeat' first
      | (with_reducible exact ih0 _ _ _)
      | (with_reducible exact LeO.refl _)
      | (with_reducible exact LeO.none _)
      | (with_reducible refine LeO.ite ?_ ?_)
      | (with_reducible refine LeO.bind ?_ (fun _ => ?_))
      | exact ih0 _ _ _
      | exact LeO.none _
      | refine LeO.ite ?_ ?_
      | refine LeO.bind ?_ (fun _ => ?_)
theorem spec_l05Dues.mono : ∀ a0 a1 k, LeO (spec_l05Dues.f k a0 a1) (spec_l05Dues.f (k + 1) a0 a1) := by
  intro a0 a1 k
  have ih0 := spec_l05Dues.mono_l k
  unfold spec_l05Dues.f
  repeat' first
      | (with_reducible exact ih0 _ _ _)
      | (with_reducible exact LeO.refl _)
      | (with_reducible exact LeO.none _)
      | (with_reducible refine LeO.ite ?_ ?_)
      | (with_reducible refine LeO.bind ?_ (fun _ => ?_))
      | exact ih0 _ _ _
      | exact LeO.none _
      | refine LeO.ite ?_ ?_
      | refine LeO.bind ?_ (fun _ => ?_)
set_option maxHeartbeats 8000000 in
set_option maxRecDepth 100000 in
theorem spec_l05Dues.calls (k : Nat) (A0 : Option Addr) (c0 : Nat) (l0 : List Int) (A1 : Option Addr) (c1 : Nat) (l1 : List Int) (r : Bool) (w : World) (hr0 : Kd.C (Kd.int .i64) w A0 l0.length l0) (hc0 : l0.length ≤ c0) (hr1 : Kd.C (Kd.int .i64) w A1 l1.length l1) (hc1 : l1.length ≤ c1) (h : spec_l05Dues.f k l0 l1 = some r) :
    Calls Try.prog 39 #[.slice A0 l0.length c0, .slice A1 l1.length c1] w fun e w' => e = .returned (.bool r) ∧ Drawn0 w w' := by
  have HR0 := Aside0.mk hr0
  have HC0 := Aside0.mk hc0
  clear hr0 hc0
  have HR1 := Aside0.mk hr1
  have HC1 := Aside0.mk hc1
  clear hr1 hc1
  have H : (spec_l05Dues.l0 k l0 l1 0) = some r := h
  clear h
  have H' := Aside0.mk H
  clear H
  go_enter Try.func39, Try.ntmps39
  go_wp2
  go_loopg [5] k (fun kq v5 w' => ∃ (x5_1 : Int), v5 = .int .i64 x5_1 ∧ Aside0 (spec_l05Dues.l0 kq l0 l1 x5_1 = some r) ∧ Aside0 (kq ≤ k) ∧ Drawn0 w w')
  case atStart => exact ⟨(0), (by first | rfl | (simp; done) | (simp [*]; done)), H', ⟨Nat.le_refl _⟩, by repeat (first | exact Drawn0.refl _ | apply Drawn0.step)⟩
  case round =>
    clear H'
    try clear c1
    try clear p2
    obtain ⟨x5_1, rfl, HA, HK1, ⟨m1, rfl⟩⟩ := hrel
    cases gk with
    | zero => exact absurd HA.out (by simp [spec_l05Dues.l0])
    | succ k1 =>
      have H := HA.out
      clear HA
      simp only [spec_l05Dues.l0] at H
      by_cases c3 : x5_1 < (l1.length : Int)
      · rw [if_pos c3] at H
        have c3b0 : decide (x5_1 < (l1.length : Int)) = true := decide_eq_true c3
        clear c3
        by_cases c4 : 0 ≤ x5_1
        · rw [if_pos c4] at H
          have c4b0 : decide (0 ≤ x5_1) = true := decide_eq_true c4
          clear c4
          replace H := Option.bind_eq_some_iff.mp H
          obtain ⟨t197, A50, H⟩ := H
          replace H : (if t197 = true then (spec_l05Dues.l0 k1 l0 l1 (wrap64 (x5_1 + 1))) else (some false)) = some r := H
          have A5 := Aside0.mk A50
          clear A50
          by_cases c6 : t197 = true
          · subst c6
            have H1 : (spec_l05Dues.l0 k1 l0 l1 (wrap64 (x5_1 + 1))) = some r := by rw [if_pos rfl] at H; exact H
            clear H
            have H := H1
            clear H1
            have H' := Aside0.mk H
            clear H
            have p196 : 0 ≤ (x5_1 : Int) := of_decide_eq_true (by first | (with_reducible assumption) | assumption)
            have q196 : x5_1 < (l1.length : Int) := of_decide_eq_true (by first | (with_reducible assumption) | assumption)
            obtain ⟨ad196, e196, hx196_0⟩ := Kd.at_int HR1.out x5_1 p196 q196
            cases e196
            replace p196 := eq_true p196
            replace q196 := eq_true q196
            go_wp2_with (first | ((with_reducible refine gate_callee (f := 50) rfl ?_); refine goesL_ (some 16) rfl rfl Try.func50 (by kernel_rfl) rfl #[.int .i64 (rd l1 x5_1), .int .i64 0, .int .i64 1200000] rfl (by (try simp only [List.map_toArray, List.map_cons, List.map_nil]); first | done | rfl | (simp only [List.length_drop, List.length_take]; rfl)) ?_; (with_reducible refine (spec_l00In.calls (rd l1 x5_1) 0 1200000 true _ A5.out).mono ?_); rintro e w' ⟨rfl, ⟨nd, rfl⟩⟩; refine ⟨_, rfl, ?_⟩))
            go_roundg k1
            case measure => have := HK1.out; omega
            case rel => exact ⟨(wrap64 (x5_1 + 1)), (by first | rfl | (simp; done) | (simp [*]; done)), H', ⟨by have := HK1.out; omega⟩, by repeat (first | exact Drawn0.refl _ | apply Drawn0.step)⟩
          · replace c6 := Bool.eq_false_iff.mpr c6
            subst c6
            have H1 : (some false) = some r := by rw [if_neg (show ¬ (false = true) by decide)] at H; exact H
            clear H
            have H := H1
            clear H1
            obtain rfl := Option.some.inj H
            have p196 : 0 ≤ (x5_1 : Int) := of_decide_eq_true (by first | (with_reducible assumption) | assumption)
            have q196 : x5_1 < (l1.length : Int) := of_decide_eq_true (by first | (with_reducible assumption) | assumption)
            obtain ⟨ad196, e196, hx196_0⟩ := Kd.at_int HR1.out x5_1 p196 q196
            cases e196
            replace p196 := eq_true p196
            replace q196 := eq_true q196
            go_wp2_with (first | ((with_reducible refine gate_callee (f := 50) rfl ?_); refine goesL_ (some 16) rfl rfl Try.func50 (by kernel_rfl) rfl #[.int .i64 (rd l1 x5_1), .int .i64 0, .int .i64 1200000] rfl (by (try simp only [List.map_toArray, List.map_cons, List.map_nil]); first | done | rfl | (simp only [List.length_drop, List.length_take]; rfl)) ?_; (with_reducible refine (spec_l00In.calls (rd l1 x5_1) 0 1200000 false _ A5.out).mono ?_); rintro e w' ⟨rfl, ⟨nd, rfl⟩⟩; refine ⟨_, rfl, ?_⟩))
            go_ret
            exact ⟨by first | rfl | (simp; done) | (simp [*]; done), by repeat (first | exact Drawn0.refl _ | apply Drawn0.step)⟩
        · rw [if_neg c4] at H
          exact absurd H (by simp)
      · rw [if_neg c3] at H
        have c3b0 : decide (x5_1 < (l1.length : Int)) = false := decide_eq_false c3
        clear c3
        obtain rfl := Option.some.inj H
        go_wp2
        go_ret
        exact ⟨by first | rfl | (simp; done) | (simp [*]; done), by repeat (first | exact Drawn0.refl _ | apply Drawn0.step)⟩
end Go.Proofs.Ytcibhhkpnakkgaa.Q
namespace Go.Proofs.Ytcibhhkpnakkgaa.Ext
end Go.Proofs.Ytcibhhkpnakkgaa.Ext
namespace Go.Proofs.Ytcibhhkpnakkgaa.Q
open Go.Proofs.Ytcibhhkpnakkgaa.Ext
open Go.RowKit Go.Proofs.YtcibhhkpnakkgaaW.PrintWords Go.Proofs.YtcibhhkpnakkgaaW.PrintLast Go.Proofs.YtcibhhkpnakkgaaW.PrintMore
attribute [local go_sem] max2_int min2_int max_two min_two max_three min_three max_four min_four
set_option linter.unusedVariables false
set_option linter.unusedSimpArgs false
def spec_l05Late.l0 : Nat → List Int → List Int → List Int → List Int → Int → Int → Option (List Int)
  | 0, _, _, _, _, _, _ => none
  | k + 1, x0, x1, x2, x7, x8, x9 => if x9 < (x2.length : Int) then (if 0 ≤ x9 then (if 0 ≤ (rd x2 x9) then (if (rd x2 x9) < (x0.length : Int) then (if (rd x2 x9) < (x1.length : Int) then (if (wrap64 (x8 + (rd x0 (rd x2 x9)))) > (rd x1 (rd x2 x9)) then (if x7.length < 17592186044416 then (spec_l05Late.l0 k x0 x1 x2 (x7 ++ [rd x2 x9]) (wrap64 (x8 + (rd x0 (rd x2 x9)))) (wrap64 (x9 + 1))) else (none)) else (spec_l05Late.l0 k x0 x1 x2 x7 (wrap64 (x8 + (rd x0 (rd x2 x9)))) (wrap64 (x9 + 1)))) else (none)) else (none)) else (none)) else (none)) else (some x7)
def spec_l05Late.f (k : Nat) (l0 : List Int) (l1 : List Int) (l2 : List Int) : Option (List Int) := spec_l05Late.l0 k l0 l1 l2 (([] : List Int)) 0 0
theorem spec_l05Late.mono_l : ∀ k, (∀ y0 y1 y2 y3 y4 y5, LeO (spec_l05Late.l0 k y0 y1 y2 y3 y4 y5) (spec_l05Late.l0 (k + 1) y0 y1 y2 y3 y4 y5))
  | 0 => fun _ _ _ _ _ _ r h => by simp [spec_l05Late.l0] at h
  | k + 1 => by
    have ih0 := spec_l05Late.mono_l k
    · intro y0 y1 y2 y3 y4 y5
      unfold spec_l05Late.l0
      repeat' first
      | (with_reducible exact ih0 _ _ _ _ _ _)
      | (with_reducible exact LeO.refl _)
      | (with_reducible exact LeO.none _)
      | (with_reducible refine LeO.ite ?_ ?_)
      | (with_reducible refine LeO.bind ?_ (fun _ => ?_))
      | exact ih0 _ _ _ _ _ _
      | exact LeO.none _
      | refine LeO.ite ?_ ?_
      | refine LeO.bind ?_ (fun _ => ?_)
theorem spec_l05Late.mono : ∀ a0 a1 a2 k, LeO (spec_l05Late.f k a0 a1 a2) (spec_l05Late.f (k + 1) a0 a1 a2) := by
  intro a0 a1 a2 k
  have ih0 := spec_l05Late.mono_l k
  unfold spec_l05Late.f
  repeat' first
      | (with_reducible exact ih0 _ _ _ _ _ _)
      | (with_reducible exact LeO.refl _)
      | (with_reducible exact LeO.none _)
      | (with_reducible refine LeO.ite ?_ ?_)
      | (with_reducible refine LeO.bind ?_ (fun _ => ?_))
      | exact ih0 _ _ _ _ _ _
      | exact LeO.none _
      | refine LeO.ite ?_ ?_
      | refine LeO.bind ?_ (fun _ => ?_)
set_option maxHeartbeats 8000000 in
set_option maxRecDepth 100000 in
theorem spec_l05Late.calls (k : Nat) (A0 : Option Addr) (c0 : Nat) (l0 : List Int) (A1 : Option Addr) (c1 : Nat) (l1 : List Int) (A2 : Option Addr) (c2 : Nat) (l2 : List Int) (r : List Int) (w : World) (hr0 : Kd.C (Kd.int .i64) w A0 l0.length l0) (hc0 : l0.length ≤ c0) (hr1 : Kd.C (Kd.int .i64) w A1 l1.length l1) (hc1 : l1.length ≤ c1) (hr2 : Kd.C (Kd.int .i64) w A2 l2.length l2) (hc2 : l2.length ≤ c2) (h : spec_l05Late.f k l0 l1 l2 = some r) :
    Calls Try.prog 40 #[.slice A0 l0.length c0, .slice A1 l1.length c1, .slice A2 l2.length c2] w fun e w' => ∃ v0_ : Value, e = .returned (v0_) ∧ Kd.R (Kd.int .i64) 2 w' w.heap.size (fun _ => True) v0_ r ∧ Below w.heap.size w w' := by
  have HR0 := Aside0.mk hr0
  have HC0 := Aside0.mk hc0
  clear hr0 hc0
  have HR1 := Aside0.mk hr1
  have HC1 := Aside0.mk hc1
  clear hr1 hc1
  have HR2 := Aside0.mk hr2
  have HC2 := Aside0.mk hc2
  clear hr2 hc2
  have HB := Aside0.mk (Below.refl w.heap.size w)
  have H : (spec_l05Late.l0 k l0 l1 l2 (([] : List Int)) 0 0) = some r := h
  clear h
  obtain ⟨y198, hy198⟩ : ∃ y_ : List Int, y_ = (([] : List Int)) := ⟨_, rfl⟩
  replace H : (spec_l05Late.l0 k l0 l1 l2 y198 0 0) = some r := by first | (rw [hy198]; with_reducible exact H) | (have H2_ := (Option.bind_some _ _).symm.trans H; rw [hy198]; with_reducible exact H2_) | (have H2_ := (Option.bind_some _ _).symm.trans H; with_reducible exact H2_) | with_reducible exact H | (rw [hy198]; exact H) | exact H
  have Ny198 := Aside0.mk hy198
  clear hy198
  have H' := Aside0.mk H
  clear H
  go_enter Try.func40, Try.ntmps40
  go_wp2_with (first | ((with_reducible refine gate_dst (N := 10) rfl ?_); refine Kd.R_lit (Kd.int .i64) _ 2 ?hg (N := 10) ?hd (xs := ([] : List Int)) (inner := []) (ok := fun _ => True) (okp := fun _ => True) ?hr ?hp (fun _ hk => hk) trivial (Below.refl _ _) (Nat.le_refl _) (by simp) ?_; (case hd => rfl); (case hg => rfl); (case hr => first | (go_simp; done) | (go_simp; rfl)); (case hp => exact (Reps.none _ _)); intro v199 w4 ho5 hb hg_ hnew_; clear hg_ hnew_; (first | rw [← Ny198.out] at ho5 | (simp only [Int.reduceToNat] at ho5; rw [← Ny198.out] at ho5)); have n0_ := Aside0.mk (Kd.R_lower ho5 (below_size (by repeat (first | (with_reducible first | exact HB.out | apply below_alloc | apply pw_below_drewN | apply below_drew1) | exact HB.out)))); have n1_ := Aside0.mk (below_step (by repeat (first | (with_reducible first | exact HB.out | apply below_alloc | apply pw_below_drewN | apply below_drew1) | exact HB.out)) hb); clear HB; have HO200 := n0_; have HB := n1_; clear n0_ n1_; clear hb ho5))
  go_loopg [7, 8, 9] k (fun kq v7 v8 v9 w' => ∃ (x7_1 : List Int) (x8_1 : Int) (x9_1 : Int), v8 = .int .i64 x8_1 ∧ v9 = .int .i64 x9_1 ∧ Aside0 (spec_l05Late.l0 kq l0 l1 l2 x7_1 x8_1 x9_1 = some r) ∧ Aside0 (kq ≤ k) ∧ Aside0 (Kd.R (Kd.int .i64) 2 w' w.heap.size (fun _ => True) v7 x7_1) ∧ Aside0 (Below w.heap.size w w'))
  case atStart => exact ⟨(y198), (0), (0), (by first | rfl | (simp; done) | (simp [*]; done)), (by first | rfl | (simp; done) | (simp [*]; done)), H', ⟨Nat.le_refl _⟩, ⟨by (with_reducible repeat (first | apply Kd.R_alloc | apply Kd.R_drewN | apply Kd.R_drew)); exact HO200.out⟩, ⟨by repeat (first | (with_reducible first | exact HB.out | apply below_alloc | apply pw_below_drewN | apply below_drew1) | exact HB.out)⟩⟩
  case round =>
    clear H'
    try clear c1
    try clear c2
    try clear p2
    try clear c4
    obtain ⟨x7_1, x8_1, x9_1, rfl, rfl, HA, HK1, HO_7, HB⟩ := hrel
    cases gk with
    | zero => exact absurd HA.out (by simp [spec_l05Late.l0])
    | succ k1 =>
      have H := HA.out
      clear HA
      simp only [spec_l05Late.l0] at H
      by_cases c6 : x9_1 < (l2.length : Int)
      · rw [if_pos c6] at H
        have c6b0 : decide (x9_1 < (l2.length : Int)) = true := decide_eq_true c6
        clear c6
        by_cases c7 : 0 ≤ x9_1
        · rw [if_pos c7] at H
          have c7b0 : decide (0 ≤ x9_1) = true := decide_eq_true c7
          clear c7
          by_cases c8 : 0 ≤ (rd l2 x9_1)
          · rw [if_pos c8] at H
            have c8b0 : decide (0 ≤ (rd l2 x9_1)) = true := decide_eq_true c8
            clear c8
            by_cases c9 : (rd l2 x9_1) < (l0.length : Int)
            · rw [if_pos c9] at H
              have c9b0 : decide ((rd l2 x9_1) < (l0.length : Int)) = true := decide_eq_true c9
              clear c9
              by_cases c10 : (rd l2 x9_1) < (l1.length : Int)
              · rw [if_pos c10] at H
                have c10b0 : decide ((rd l2 x9_1) < (l1.length : Int)) = true := decide_eq_true c10
                clear c10
                by_cases c11 : (wrap64 (x8_1 + (rd l0 (rd l2 x9_1)))) > (rd l1 (rd l2 x9_1))
                · rw [if_pos c11] at H
                  have c11b0 : decide ((rd l1 (rd l2 x9_1)) < (wrap64 (x8_1 + (rd l0 (rd l2 x9_1))))) = true := decide_eq_true c11
                  clear c11
                  by_cases c12 : x7_1.length < 17592186044416
                  · rw [if_pos c12] at H
                    have LMc12 := Aside0.mk c12
                    clear c12
                    obtain ⟨y206, hy206⟩ : ∃ y_ : List Int, y_ = (x7_1 ++ [rd l2 x9_1]) := ⟨_, rfl⟩
                    replace H : (spec_l05Late.l0 k1 l0 l1 l2 y206 (wrap64 (x8_1 + (rd l0 (rd l2 x9_1)))) (wrap64 (x9_1 + 1))) = some r := by first | (rw [hy206]; with_reducible exact H) | (have H2_ := (Option.bind_some _ _).symm.trans H; rw [hy206]; with_reducible exact H2_) | (have H2_ := (Option.bind_some _ _).symm.trans H; with_reducible exact H2_) | with_reducible exact H | (rw [hy206]; exact H) | exact H
                    have Ny206 := Aside0.mk hy206
                    clear hy206
                    have H' := Aside0.mk H
                    clear H
                    have p201 : 0 ≤ (x9_1 : Int) := of_decide_eq_true (by first | (with_reducible assumption) | assumption)
                    have q201 : x9_1 < (l2.length : Int) := of_decide_eq_true (by first | (with_reducible assumption) | assumption)
                    obtain ⟨ad201, e201, hx201_0⟩ := Kd.at_int HR2.out x9_1 p201 q201
                    cases e201
                    replace hx201_0 := (HB.out.cell (World.block_lt_of_cell? w _ hx201_0)).trans hx201_0
                    replace p201 := eq_true p201
                    replace q201 := eq_true q201
                    have p202 : 0 ≤ ((rd l2 x9_1) : Int) := of_decide_eq_true (by first | (with_reducible assumption) | assumption)
                    have q202 : (rd l2 x9_1) < (l0.length : Int) := of_decide_eq_true (by first | (with_reducible assumption) | assumption)
                    obtain ⟨ad202, e202, hx202_0⟩ := Kd.at_int HR0.out (rd l2 x9_1) p202 q202
                    cases e202
                    replace hx202_0 := (HB.out.cell (World.block_lt_of_cell? w _ hx202_0)).trans hx202_0
                    replace p202 := eq_true p202
                    replace q202 := eq_true q202
                    have p203 : 0 ≤ (x9_1 : Int) := of_decide_eq_true (by first | (with_reducible assumption) | assumption)
                    have q203 : x9_1 < (l2.length : Int) := of_decide_eq_true (by first | (with_reducible assumption) | assumption)
                    obtain ⟨ad203, e203, hx203_0⟩ := Kd.at_int HR2.out x9_1 p203 q203
                    obtain rfl : ad201 = ad203 := (by injection e203)
                    replace hx203_0 := (HB.out.cell (World.block_lt_of_cell? w _ hx203_0)).trans hx203_0
                    replace p203 := eq_true p203
                    replace q203 := eq_true q203
                    have p204 : 0 ≤ ((rd l2 x9_1) : Int) := of_decide_eq_true (by first | (with_reducible assumption) | assumption)
                    have q204 : (rd l2 x9_1) < (l1.length : Int) := of_decide_eq_true (by first | (with_reducible assumption) | assumption)
                    obtain ⟨ad204, e204, hx204_0⟩ := Kd.at_int HR1.out (rd l2 x9_1) p204 q204
                    cases e204
                    replace hx204_0 := (HB.out.cell (World.block_lt_of_cell? w _ hx204_0)).trans hx204_0
                    replace p204 := eq_true p204
                    replace q204 := eq_true q204
                    have p205 : 0 ≤ (x9_1 : Int) := of_decide_eq_true (by first | (with_reducible assumption) | assumption)
                    have q205 : x9_1 < (l2.length : Int) := of_decide_eq_true (by first | (with_reducible assumption) | assumption)
                    obtain ⟨ad205, e205, hx205_0⟩ := Kd.at_int HR2.out x9_1 p205 q205
                    obtain rfl : ad201 = ad205 := (by injection e205)
                    replace hx205_0 := (HB.out.cell (World.block_lt_of_cell? w _ hx205_0)).trans hx205_0
                    replace p205 := eq_true p205
                    replace q205 := eq_true q205
                    go_wp2_with (first | ((with_reducible refine gate_builtin (b := .append) (xs := #[.tmp 35, .tmp 40]) rfl ?_); at_builtin; refine Kd.R_append (Kd.int .i64) (w0 := w) w.heap.size rfl (.tmp 35) (.tmp 40) 24 2 (.int .i64 0) 8 rfl Try.underlying24 info2 rfl (by decide) (by omega) u7 x7_1 (rd l2 x9_1) [.int .i64 (rd l2 x9_1)] (fun _ => True) (fun _ => False) rfl rfl ?aP (fun _ hk => hk.elim) ?aF ?aO ?aB ?aS ?aL ?_; (case aP => exact rfl); (case aB => exact (by repeat (first | (with_reducible first | exact HB.out | apply below_alloc | apply pw_below_drewN | apply below_drew1) | exact HB.out))); (case aF => exact (fun _ _ => trivial)); (case aO => exact (by (with_reducible repeat (first | apply Kd.R_alloc | apply Kd.R_drewN | apply Kd.R_drew)); exact HO_7.out)); (case aS => exact (below_size (by repeat (first | (with_reducible first | exact HB.out | apply below_alloc | apply pw_below_drewN | apply below_drew1) | exact HB.out)))); (case aL => have := LMc12.out; omega); intro v207 w13 ho hb hg hat; rw [← Ny206.out] at ho; have n0_ := Aside0.mk (hb); have n1_ := Aside0.mk (ho); clear HB; clear HO_7; have HB := n0_; have HO208 := n1_; clear n0_ n1_; clear ho hb hg hat))
                    go_roundg k1
                    case measure => have := HK1.out; omega
                    case rel => exact ⟨(y206), (wrap64 (x8_1 + (rd l0 (rd l2 x9_1)))), (wrap64 (x9_1 + 1)), (by first | rfl | (simp; done) | (simp [*]; done)), (by first | rfl | (simp; done) | (simp [*]; done)), H', ⟨by have := HK1.out; omega⟩, ⟨by (with_reducible repeat (first | apply Kd.R_alloc | apply Kd.R_drewN | apply Kd.R_drew)); exact HO208.out⟩, ⟨by repeat (first | (with_reducible first | exact HB.out | apply below_alloc | apply pw_below_drewN | apply below_drew1) | exact HB.out)⟩⟩
                  · rw [if_neg c12] at H
                    exact absurd H (by simp)
                · rw [if_neg c11] at H
                  have c11b0 : decide ((rd l1 (rd l2 x9_1)) < (wrap64 (x8_1 + (rd l0 (rd l2 x9_1))))) = false := decide_eq_false c11
                  clear c11
                  have H' := Aside0.mk H
                  clear H
                  have p201 : 0 ≤ (x9_1 : Int) := of_decide_eq_true (by first | (with_reducible assumption) | assumption)
                  have q201 : x9_1 < (l2.length : Int) := of_decide_eq_true (by first | (with_reducible assumption) | assumption)
                  obtain ⟨ad201, e201, hx201_0⟩ := Kd.at_int HR2.out x9_1 p201 q201
                  cases e201
                  replace hx201_0 := (HB.out.cell (World.block_lt_of_cell? w _ hx201_0)).trans hx201_0
                  replace p201 := eq_true p201
                  replace q201 := eq_true q201
                  have p202 : 0 ≤ ((rd l2 x9_1) : Int) := of_decide_eq_true (by first | (with_reducible assumption) | assumption)
                  have q202 : (rd l2 x9_1) < (l0.length : Int) := of_decide_eq_true (by first | (with_reducible assumption) | assumption)
                  obtain ⟨ad202, e202, hx202_0⟩ := Kd.at_int HR0.out (rd l2 x9_1) p202 q202
                  cases e202
                  replace hx202_0 := (HB.out.cell (World.block_lt_of_cell? w _ hx202_0)).trans hx202_0
                  replace p202 := eq_true p202
                  replace q202 := eq_true q202
                  have p203 : 0 ≤ (x9_1 : Int) := of_decide_eq_true (by first | (with_reducible assumption) | assumption)
                  have q203 : x9_1 < (l2.length : Int) := of_decide_eq_true (by first | (with_reducible assumption) | assumption)
                  obtain ⟨ad203, e203, hx203_0⟩ := Kd.at_int HR2.out x9_1 p203 q203
                  obtain rfl : ad201 = ad203 := (by injection e203)
                  replace hx203_0 := (HB.out.cell (World.block_lt_of_cell? w _ hx203_0)).trans hx203_0
                  replace p203 := eq_true p203
                  replace q203 := eq_true q203
                  have p204 : 0 ≤ ((rd l2 x9_1) : Int) := of_decide_eq_true (by first | (with_reducible assumption) | assumption)
                  have q204 : (rd l2 x9_1) < (l1.length : Int) := of_decide_eq_true (by first | (with_reducible assumption) | assumption)
                  obtain ⟨ad204, e204, hx204_0⟩ := Kd.at_int HR1.out (rd l2 x9_1) p204 q204
                  cases e204
                  replace hx204_0 := (HB.out.cell (World.block_lt_of_cell? w _ hx204_0)).trans hx204_0
                  replace p204 := eq_true p204
                  replace q204 := eq_true q204
                  go_wp2
                  go_roundg k1
                  case measure => have := HK1.out; omega
                  case rel => exact ⟨(x7_1), (wrap64 (x8_1 + (rd l0 (rd l2 x9_1)))), (wrap64 (x9_1 + 1)), (by first | rfl | (simp; done) | (simp [*]; done)), (by first | rfl | (simp; done) | (simp [*]; done)), H', ⟨by have := HK1.out; omega⟩, ⟨by (with_reducible repeat (first | apply Kd.R_alloc | apply Kd.R_drewN | apply Kd.R_drew)); exact HO_7.out⟩, ⟨by repeat (first | (with_reducible first | exact HB.out | apply below_alloc | apply pw_below_drewN | apply below_drew1) | exact HB.out)⟩⟩
              · rw [if_neg c10] at H
                exact absurd H (by simp)
            · rw [if_neg c9] at H
              exact absurd H (by simp)
          · rw [if_neg c8] at H
            exact absurd H (by simp)
        · rw [if_neg c7] at H
          exact absurd H (by simp)
      · rw [if_neg c6] at H
        have c6b0 : decide (x9_1 < (l2.length : Int)) = false := decide_eq_false c6
        clear c6
        obtain rfl := Option.some.inj H
        go_wp2
        go_ret
        exact ⟨_, by first | rfl | (simp [errW_none, errW_some] <;> rfl) | (simp [*, errW_none, errW_some] <;> rfl), by (with_reducible repeat (first | apply Kd.R_alloc | apply Kd.R_drewN | apply Kd.R_drew)); exact HO_7.out, by repeat (first | (with_reducible first | exact HB.out | apply below_alloc | apply pw_below_drewN | apply below_drew1) | exact HB.out)⟩
end Go.Proofs.Ytcibhhkpnakkgaa.Q
namespace Go.Proofs.Ytcibhhkpnakkgaa.Ext
end Go.Proofs.Ytcibhhkpnakkgaa.Ext
namespace Go.Proofs.Ytcibhhkpnakkgaa.Q
open Go.Proofs.Ytcibhhkpnakkgaa.Ext
open Go.RowKit Go.Proofs.YtcibhhkpnakkgaaW.PrintWords Go.Proofs.YtcibhhkpnakkgaaW.PrintLast Go.Proofs.YtcibhhkpnakkgaaW.PrintMore
attribute [local go_sem] max2_int min2_int max_two min_two max_three min_three max_four min_four
set_option linter.unusedVariables false
set_option linter.unusedSimpArgs false
def spec_l00Has.l0 : Nat → List Int → Int → Int → Option (Bool)
  | 0, _, _, _ => none
  | k + 1, x0, x1, x5 => if x5 < (x0.length : Int) then (if 0 ≤ x5 then (if (rd x0 x5) = x1 then (some true) else (spec_l00Has.l0 k x0 x1 (wrap64 (x5 + 1)))) else (none)) else (some false)
def spec_l00Has.f (k : Nat) (l0 : List Int) (a1 : Int) : Option (Bool) := spec_l00Has.l0 k l0 a1 0
theorem spec_l00Has.mono_l : ∀ k, (∀ y0 y1 y2, LeO (spec_l00Has.l0 k y0 y1 y2) (spec_l00Has.l0 (k + 1) y0 y1 y2))
  | 0 => fun _ _ _ r h => by simp [spec_l00Has.l0] at h
  | k + 1 => by
    have ih0 := spec_l00Has.mono_l k
    · intro y0 y1 y2
      unfold spec_l00Has.l0
      repeat' first
      | (with_reducible exact ih0 _ _ _)
      | (with_reducible exact LeO.refl _)
      | (with_reducible exact LeO.none _)
      | (with_reducible refine LeO.ite ?_ ?_)
      | (with_reducible refine LeO.bind ?_ (fun _ => ?_))
      | exact ih0 _ _ _
      | exact LeO.none _
      | refine LeO.ite ?_ ?_
      | refine LeO.bind ?_ (fun _ => ?_)
theorem spec_l00Has.mono : ∀ a0 a1 k, LeO (spec_l00Has.f k a0 a1) (spec_l00Has.f (k + 1) a0 a1) := by
  intro a0 a1 k
  have ih0 := spec_l00Has.mono_l k
  unfold spec_l00Has.f
  repeat' first
      | (with_reducible exact ih0 _ _ _)
      | (with_reducible exact LeO.refl _)
      | (with_reducible exact LeO.none _)
      | (with_reducible refine LeO.ite ?_ ?_)
      | (with_reducible refine LeO.bind ?_ (fun _ => ?_))
      | exact ih0 _ _ _
      | exact LeO.none _
      | refine LeO.ite ?_ ?_
      | refine LeO.bind ?_ (fun _ => ?_)
set_option maxHeartbeats 8000000 in
set_option maxRecDepth 100000 in
theorem spec_l00Has.calls (k : Nat) (A0 : Option Addr) (c0 : Nat) (l0 : List Int) (a1 : Int) (r : Bool) (w : World) (hr0 : Kd.C (Kd.int .i64) w A0 l0.length l0) (hc0 : l0.length ≤ c0) (h : spec_l00Has.f k l0 a1 = some r) :
    Calls Try.prog 42 #[.slice A0 l0.length c0, .int .i64 a1] w fun e w' => e = .returned (.bool r) ∧ Drawn0 w w' := by
  have HR0 := Aside0.mk hr0
  have HC0 := Aside0.mk hc0
  clear hr0 hc0
  have H : (spec_l00Has.l0 k l0 a1 0) = some r := h
  clear h
  have H' := Aside0.mk H
  clear H
  go_enter Try.func42, Try.ntmps42
  go_wp2
  go_loopg [5] k (fun kq v5 w' => ∃ (x5_1 : Int), v5 = .int .i64 x5_1 ∧ Aside0 (spec_l00Has.l0 kq l0 a1 x5_1 = some r) ∧ Aside0 (kq ≤ k) ∧ Drawn0 w w')
  case atStart => exact ⟨(0), (by first | rfl | (simp; done) | (simp [*]; done)), H', ⟨Nat.le_refl _⟩, by repeat (first | exact Drawn0.refl _ | apply Drawn0.step)⟩
  case round =>
    clear H'
    try clear p2
    obtain ⟨x5_1, rfl, HA, HK1, ⟨m1, rfl⟩⟩ := hrel
    cases gk with
    | zero => exact absurd HA.out (by simp [spec_l00Has.l0])
    | succ k1 =>
      have H := HA.out
      clear HA
      simp only [spec_l00Has.l0] at H
      by_cases c3 : x5_1 < (l0.length : Int)
      · rw [if_pos c3] at H
        have c3b0 : decide (x5_1 < (l0.length : Int)) = true := decide_eq_true c3
        clear c3
        by_cases c4 : 0 ≤ x5_1
        · rw [if_pos c4] at H
          have c4b0 : decide (0 ≤ x5_1) = true := decide_eq_true c4
          clear c4
          by_cases c5 : (rd l0 x5_1) = a1
          · rw [if_pos c5] at H
            have c5b0 : ((rd l0 x5_1) == a1) = true := beq_iff_eq.mpr c5
            have c5b1 : ((rd l0 x5_1) != a1) = false := bne_eq_false_iff_eq.mpr c5
            clear c5
            obtain rfl := Option.some.inj H
            have p226 : 0 ≤ (x5_1 : Int) := of_decide_eq_true (by first | (with_reducible assumption) | assumption)
            have q226 : x5_1 < (l0.length : Int) := of_decide_eq_true (by first | (with_reducible assumption) | assumption)
            obtain ⟨ad226, e226, hx226_0⟩ := Kd.at_int HR0.out x5_1 p226 q226
            cases e226
            replace p226 := eq_true p226
            replace q226 := eq_true q226
            go_wp2
            go_ret
            exact ⟨by first | rfl | (simp; done) | (simp [*]; done), by repeat (first | exact Drawn0.refl _ | apply Drawn0.step)⟩
          · rw [if_neg c5] at H
            have c5b0 : ((rd l0 x5_1) == a1) = false := beq_eq_false_iff_ne.mpr c5
            have c5b1 : ((rd l0 x5_1) != a1) = true := bne_iff_ne.mpr c5
            have H' := Aside0.mk H
            clear H
            have p226 : 0 ≤ (x5_1 : Int) := of_decide_eq_true (by first | (with_reducible assumption) | assumption)
            have q226 : x5_1 < (l0.length : Int) := of_decide_eq_true (by first | (with_reducible assumption) | assumption)
            obtain ⟨ad226, e226, hx226_0⟩ := Kd.at_int HR0.out x5_1 p226 q226
            cases e226
            replace p226 := eq_true p226
            replace q226 := eq_true q226
            go_wp2
            go_roundg k1
            case measure => have := HK1.out; omega
            case rel => exact ⟨(wrap64 (x5_1 + 1)), (by first | rfl | (simp; done) | (simp [*]; done)), H', ⟨by have := HK1.out; omega⟩, by repeat (first | exact Drawn0.refl _ | apply Drawn0.step)⟩
        · rw [if_neg c4] at H
          exact absurd H (by simp)
      · rw [if_neg c3] at H
        have c3b0 : decide (x5_1 < (l0.length : Int)) = false := decide_eq_false c3
        clear c3
        obtain rfl := Option.some.inj H
        go_wp2
        go_ret
        exact ⟨by first | rfl | (simp; done) | (simp [*]; done), by repeat (first | exact Drawn0.refl _ | apply Drawn0.step)⟩
end Go.Proofs.Ytcibhhkpnakkgaa.Q
namespace Go.Proofs.Ytcibhhkpnakkgaa.Ext
end Go.Proofs.Ytcibhhkpnakkgaa.Ext
namespace Go.Proofs.Ytcibhhkpnakkgaa.Q
open Go.Proofs.Ytcibhhkpnakkgaa.Ext
open Go.RowKit Go.Proofs.YtcibhhkpnakkgaaW.PrintWords Go.Proofs.YtcibhhkpnakkgaaW.PrintLast Go.Proofs.YtcibhhkpnakkgaaW.PrintMore
attribute [local go_sem] max2_int min2_int max_two min_two max_three min_three max_four min_four
set_option linter.unusedVariables false
set_option linter.unusedSimpArgs false
mutual
def spec_l05Orders.l0 : Nat → Int → List Int → List (List Int) → Int → Option ((List (List Int)))
  | 0, _, _, _, _ => none
  | k + 1, x0, x1, x5, x6 => if x6 < x0 then ((spec_l00Has.f k x1 x6).bind fun t236 => (if t236 = true then (spec_l05Orders.l0 k x0 x1 x5 (wrap64 (x6 + 1))) else ((spec_l00Own.f x1).bind fun t237 => (if t237.length < 17592186044416 then ((spec_l05Orders.f k x0 (t237 ++ [x6])).bind fun t243 => (if x5.length + t243.length < 5864062014805 then (spec_l05Orders.l0 k x0 x1 (x5 ++ t243) (wrap64 (x6 + 1))) else (none))) else (none))))) else (some x5)
def spec_l05Orders.f : Nat → Int → List Int → Option ((List (List Int)))
  | 0, _, _ => none
  | k + 1, a0, l1 => if (l1.length : Int) = a0 then ((spec_l00Own.f l1).bind fun t227 => (some (([t227] : List (List Int))))) else (spec_l05Orders.l0 k a0 l1 (([] : List (List Int))) 0)
end
theorem spec_l05Orders.mono_l : ∀ k, (∀ y0 y1, LeO (spec_l05Orders.f k y0 y1) (spec_l05Orders.f (k + 1) y0 y1)) ∧ (∀ y0 y1 y2 y3, LeO (spec_l05Orders.l0 k y0 y1 y2 y3) (spec_l05Orders.l0 (k + 1) y0 y1 y2 y3))
  | 0 => ⟨fun _ _ r h => by simp [spec_l05Orders.f] at h, fun _ _ _ _ r h => by simp [spec_l05Orders.l0] at h⟩
  | k + 1 => by
    obtain ⟨ih0, ih1⟩ := spec_l05Orders.mono_l k
    refine ⟨?_, ?_⟩
    · intro y0 y1
      unfold spec_l05Orders.f
      repeat' first
      | (with_reducible exact ih0 _ _)
      | (with_reducible exact ih1 _ _ _ _)
      | (with_reducible exact spec_l00Has.mono _ _ _)
      | (with_reducible exact LeO.refl _)
      | (with_reducible exact LeO.none _)
      | (with_reducible refine LeO.ite ?_ ?_)
      | (with_reducible refine LeO.bind ?_ (fun _ => ?_))
      | exact ih0 _ _
      | exact ih1 _ _ _ _
      | exact spec_l00Has.mono _ _ _
      | exact LeO.none _
      | refine LeO.ite ?_ ?_
      | refine LeO.bind ?_ (fun _ => ?_)
    · intro y0 y1 y2 y3
      unfold spec_l05Orders.l0
      repeat' first
      | (with_reducible exact ih0 _ _)
      | (with_reducible exact ih1 _ _ _ _)
      | (with_reducible exact spec_l00Has.mono _ _ _)
      | (with_reducible exact LeO.refl _)
      | (with_reducible exact LeO.none _)
      | (with_reducible refine LeO.ite ?_ ?_)
      | (with_reducible refine LeO.bind ?_ (fun _ => ?_))
      | exact ih0 _ _
      | exact ih1 _ _ _ _
      | exact spec_l00Has.mono _ _ _
      | exact LeO.none _
      | refine LeO.ite ?_ ?_
      | refine LeO.bind ?_ (fun _ => ?_)
theorem spec_l05Orders.mono : ∀ a0 a1 k, LeO (spec_l05Orders.f k a0 a1) (spec_l05Orders.f (k + 1) a0 a1) := by
  intro a0 a1 k
  obtain ⟨ih0, ih1⟩ := spec_l05Orders.mono_l k
  exact ih0 a0 a1
set_option maxHeartbeats 8000000 in
set_option maxRecDepth 100000 in
theorem spec_l05Orders.calls (k : Nat) : ∀ (a0 : Int) (A1 : Option Addr) (c1 : Nat) (l1 : List Int) (r : List (List Int)) (w : World) (hr1 : Kd.C (Kd.int .i64) w A1 l1.length l1) (hc1 : l1.length ≤ c1) (h : spec_l05Orders.f k a0 l1 = some r),
    Calls Try.prog 45 #[.int .i64 a0, .slice A1 l1.length c1] w fun e w' => ∃ v0_ : Value, e = .returned (v0_) ∧ Kd.N (Kd.slice 2 (Kd.int .i64)) 24 w' w.heap.size (fun k_ => (w.heap.size ≤ k_)) v0_ r ∧ Below w.heap.size w w' := by
  induction k using Nat.strongRecOn with
  | _ k ih =>
  intro a0 A1 c1 l1 r w hr1 hc1 h
  cases k with
  | zero => exact absurd h (by simp [spec_l05Orders.f])
  | succ k =>
  simp only [spec_l05Orders.f] at h
  have HR1 := Aside0.mk hr1
  have HC1 := Aside0.mk hc1
  clear hr1 hc1
  have HB := Aside0.mk (Below.refl w.heap.size w)
  have H : (if (l1.length : Int) = a0 then ((spec_l00Own.f l1).bind fun t227 => (some (([t227] : List (List Int))))) else (spec_l05Orders.l0 k a0 l1 (([] : List (List Int))) 0)) = some r := h
  clear h
  by_cases c3 : (l1.length : Int) = a0
  · rw [if_pos c3] at H
    have c3b0 : ((l1.length : Int) == a0) = true := beq_iff_eq.mpr c3
    have c3b1 : ((l1.length : Int) != a0) = false := bne_eq_false_iff_eq.mpr c3
    clear c3
    replace H := Option.bind_eq_some_iff.mp H
    obtain ⟨t227, A40, H⟩ := H
    replace H : (some (([t227] : List (List Int)))) = some r := H
    have A4 := Aside0.mk A40
    clear A40
    obtain ⟨y230, hy230⟩ : ∃ y_ : List (List Int), y_ = (([t227] : List (List Int))) := ⟨_, rfl⟩
    replace H : (some y230) = some r := by first | (rw [hy230]; with_reducible exact H) | (have H2_ := (Option.bind_some _ _).symm.trans H; rw [hy230]; with_reducible exact H2_) | (have H2_ := (Option.bind_some _ _).symm.trans H; with_reducible exact H2_) | with_reducible exact H | (rw [hy230]; exact H) | exact H
    have Ny230 := Aside0.mk hy230
    clear hy230
    obtain rfl := Option.some.inj H
    go_enter Try.func45, Try.ntmps45
    go_wp2_with (first | ((with_reducible refine gate_callee (f := 55) rfl ?_); refine goesL_ (some 12) rfl rfl Try.func55 (by kernel_rfl) rfl #[.slice A1 l1.length c1] rfl (by (try simp only [List.map_toArray, List.map_cons, List.map_nil]); first | done | rfl | (simp only [List.length_drop, List.length_take]; rfl)) ?_; (with_reducible refine (spec_l00Own.calls _ _ l1 t227 _ ?side1 ?side2 A4.out).mono ?_); (case side1 => repeat (first | exact HR1.out | (with_reducible refine Kd.C_alloc ?_ _) | (with_reducible refine Kd.C_drewN ?_ _) | (with_reducible refine Kd.C_drew ?_))); (case side2 => exact HC1.out); rintro e w5 ⟨v228, rfl, ho0, hb⟩; refine ⟨_, rfl, ?_⟩; have n0_ := Aside0.mk (Kd.R_lower (Kd.R_newM (M := fun k_ => (w.heap.size ≤ k_)) ho0 (below_size (by repeat (first | (with_reducible first | exact HB.out | apply below_alloc | apply pw_below_drewN | apply below_drew1) | exact HB.out))) (fun k_ h_ => h_)) (below_size (by repeat (first | (with_reducible first | exact HB.out | apply below_alloc | apply pw_below_drewN | apply below_drew1) | exact HB.out)))); have n1_ := Aside0.mk (below_step (by repeat (first | (with_reducible first | exact HB.out | apply below_alloc | apply pw_below_drewN | apply below_drew1) | exact HB.out)) hb); clear HB; have HO229 := n0_; have HB := n1_; clear n0_ n1_; (try clear hb); (try clear hb2); (try clear hk); (try clear hi); (try clear ho0); obtain ⟨Ao6, co6, eo6⟩ := Kd.R_slice HO229.out; subst eo6) | ((with_reducible refine gate_dst (N := 13) rfl ?_); refine Kd.N_lit (Kd.slice 2 (Kd.int .i64)) _ 24 ?hg (N' := 13) ?hd (xs := ([t227] : List (List Int))) (inner := [.slice Ao6 t227.length co6]) (ok := (fun k_ => (w.heap.size ≤ k_))) (okp := (fun k_ => (w.heap.size ≤ k_))) ?hr ?hp (fun _ hk => hk) ((show ∀ k_, w5.heap.size ≤ k_ → (fun k_ => (w.heap.size ≤ k_)) k_ from fun k_ hk => (Nat.le_trans (below_size (by repeat (first | (with_reducible first | exact HB.out | apply below_alloc | apply pw_below_drewN | apply below_drew1) | exact HB.out))) hk)) _ (Nat.le_refl _)) (Below.refl _ _) (Nat.le_refl _) (by simp) ?_; (case hd => rfl); (case hg => rfl); (case hr => first | (go_simp; done) | (go_simp; rfl)); (case hp => exact (Reps.one (show Kd.FK (Kd.slice 2 (Kd.int .i64)) _ _ t227 [.slice Ao6 t227.length co6] from (Kd.FK_slice_mk (Kd.R_reads' (Kd.R_mono (ok' := (fun k_ => (w.heap.size ≤ k_))) (HO229.out) (fun k_ hk => hk.1))).2.1 (Kd.R_F (Kd.R_mono (ok' := (fun k_ => (w.heap.size ≤ k_))) (HO229.out) (fun k_ hk => hk.1))))) (Reps.none _ _))); intro v231 w7 ho8 hb hg_ hnew_; clear hg_ hnew_; (first | rw [← Ny230.out] at ho8 | (simp only [Int.reduceToNat] at ho8; rw [← Ny230.out] at ho8)); have n0_ := Aside0.mk (Kd.N_lower ho8 (below_size (by repeat (first | (with_reducible first | exact HB.out | apply below_alloc | apply pw_below_drewN | apply below_drew1) | exact HB.out)))); have n1_ := Aside0.mk (below_step (by repeat (first | (with_reducible first | exact HB.out | apply below_alloc | apply pw_below_drewN | apply below_drew1) | exact HB.out)) hb); clear HB; clear HO229; have HO232 := n0_; have HB := n1_; clear n0_ n1_; clear hb ho8))
    go_ret
    exact ⟨_, by first | rfl | (simp [errW_none, errW_some] <;> rfl) | (simp [*, errW_none, errW_some] <;> rfl), by (with_reducible repeat (first | apply Kd.N_alloc | apply Kd.N_drewN | apply Kd.N_drew)); exact HO232.out, by repeat (first | (with_reducible first | exact HB.out | apply below_alloc | apply pw_below_drewN | apply below_drew1) | exact HB.out)⟩
  · rw [if_neg c3] at H
    have c3b0 : ((l1.length : Int) == a0) = false := beq_eq_false_iff_ne.mpr c3
    have c3b1 : ((l1.length : Int) != a0) = true := bne_iff_ne.mpr c3
    obtain ⟨y233, hy233⟩ : ∃ y_ : List (List Int), y_ = (([] : List (List Int))) := ⟨_, rfl⟩
    replace H : (spec_l05Orders.l0 k a0 l1 y233 0) = some r := by first | (rw [hy233]; with_reducible exact H) | (have H2_ := (Option.bind_some _ _).symm.trans H; rw [hy233]; with_reducible exact H2_) | (have H2_ := (Option.bind_some _ _).symm.trans H; with_reducible exact H2_) | with_reducible exact H | (rw [hy233]; exact H) | exact H
    have Ny233 := Aside0.mk hy233
    clear hy233
    have H' := Aside0.mk H
    clear H
    go_enter Try.func45, Try.ntmps45
    go_wp2_with (first | ((with_reducible refine gate_dst (N := 14) rfl ?_); refine Kd.N_lit (Kd.slice 2 (Kd.int .i64)) _ 24 ?hg (N' := 14) ?hd (xs := ([] : List (List Int))) (inner := []) (ok := (fun k_ => (w.heap.size ≤ k_))) (okp := (fun k_ => (w.heap.size ≤ k_))) ?hr ?hp (fun _ hk => hk) ((show ∀ k_, w.heap.size ≤ k_ → (fun k_ => (w.heap.size ≤ k_)) k_ from fun k_ hk => (Nat.le_trans (below_size (by repeat (first | (with_reducible first | exact HB.out | apply below_alloc | apply pw_below_drewN | apply below_drew1) | exact HB.out))) hk)) _ (Nat.le_refl _)) (Below.refl _ _) (Nat.le_refl _) (by simp) ?_; (case hd => rfl); (case hg => rfl); (case hr => first | (go_simp; done) | (go_simp; rfl)); (case hp => exact (Reps.none _ _)); intro v234 w9 ho10 hb hg_ hnew_; clear hg_ hnew_; (first | rw [← Ny233.out] at ho10 | (simp only [Int.reduceToNat] at ho10; rw [← Ny233.out] at ho10)); have n0_ := Aside0.mk (Kd.N_lower ho10 (below_size (by repeat (first | (with_reducible first | exact HB.out | apply below_alloc | apply pw_below_drewN | apply below_drew1) | exact HB.out)))); have n1_ := Aside0.mk (below_step (by repeat (first | (with_reducible first | exact HB.out | apply below_alloc | apply pw_below_drewN | apply below_drew1) | exact HB.out)) hb); clear HB; have HO235 := n0_; have HB := n1_; clear n0_ n1_; clear hb ho10))
    go_loopg [5, 6] k (fun kq v5 v6 w' => ∃ (x5_1 : List (List Int)) (x6_1 : Int), v6 = .int .i64 x6_1 ∧ Aside0 (spec_l05Orders.l0 kq a0 l1 x5_1 x6_1 = some r) ∧ Aside0 (kq ≤ k) ∧ Aside0 (Kd.N (Kd.slice 2 (Kd.int .i64)) 24 w' w.heap.size (fun k_ => (w.heap.size ≤ k_)) v5 x5_1) ∧ Aside0 (Below w.heap.size w w'))
    case atStart => exact ⟨(y233), (0), (by first | rfl | (simp; done) | (simp [*]; done)), H', ⟨Nat.le_refl _⟩, ⟨by (with_reducible repeat (first | apply Kd.N_alloc | apply Kd.N_drewN | apply Kd.N_drew)); exact HO235.out⟩, ⟨by repeat (first | (with_reducible first | exact HB.out | apply below_alloc | apply pw_below_drewN | apply below_drew1) | exact HB.out)⟩⟩
    case round =>
      clear H'
      try clear c1
      try clear p2
      try clear c3
      try clear c3b0
      try clear c3b1
      try clear c4
      try clear c5
      obtain ⟨x5_1, x6_1, rfl, HA, HK1, HO_5, HB⟩ := hrel
      cases gk with
      | zero => exact absurd HA.out (by simp [spec_l05Orders.l0])
      | succ k1 =>
        have H := HA.out
        clear HA
        simp only [spec_l05Orders.l0] at H
        by_cases c11 : x6_1 < a0
        · rw [if_pos c11] at H
          have c11b0 : decide (x6_1 < a0) = true := decide_eq_true c11
          clear c11
          replace H := Option.bind_eq_some_iff.mp H
          obtain ⟨t236, A120, H⟩ := H
          replace H : (if t236 = true then (spec_l05Orders.l0 k1 a0 l1 x5_1 (wrap64 (x6_1 + 1))) else ((spec_l00Own.f l1).bind fun t237 => (if t237.length < 17592186044416 then ((spec_l05Orders.f k1 a0 (t237 ++ [x6_1])).bind fun t243 => (if x5_1.length + t243.length < 5864062014805 then (spec_l05Orders.l0 k1 a0 l1 (x5_1 ++ t243) (wrap64 (x6_1 + 1))) else (none))) else (none)))) = some r := H
          have A12 := Aside0.mk A120
          clear A120
          by_cases c13 : t236 = true
          · subst c13
            have H1 : (spec_l05Orders.l0 k1 a0 l1 x5_1 (wrap64 (x6_1 + 1))) = some r := by rw [if_pos rfl] at H; exact H
            clear H
            have H := H1
            clear H1
            have H' := Aside0.mk H
            clear H
            go_wp2_with (first | ((with_reducible refine gate_callee (f := 42) rfl ?_); refine goesL_ (some 22) rfl rfl Try.func42 (by kernel_rfl) rfl #[.slice A1 l1.length c1, .int .i64 x6_1] rfl (by (try simp only [List.map_toArray, List.map_cons, List.map_nil]); first | done | rfl | (simp only [List.length_drop, List.length_take]; rfl)) ?_; (with_reducible refine (spec_l00Has.calls k1 _ _ l1 x6_1 true _ ?side1 ?side2 A12.out).mono ?_); (case side1 => repeat (first | exact (Kd.C_below HR1.out HB.out) | (with_reducible refine Kd.C_alloc ?_ _) | (with_reducible refine Kd.C_drewN ?_ _) | (with_reducible refine Kd.C_drew ?_))); (case side2 => exact HC1.out); rintro e w' ⟨rfl, ⟨nd, rfl⟩⟩; refine ⟨_, rfl, ?_⟩))
            go_roundg k1
            case measure => have := HK1.out; omega
            case rel => exact ⟨(x5_1), (wrap64 (x6_1 + 1)), (by first | rfl | (simp; done) | (simp [*]; done)), H', ⟨by have := HK1.out; omega⟩, ⟨by (with_reducible repeat (first | apply Kd.N_alloc | apply Kd.N_drewN | apply Kd.N_drew)); exact HO_5.out⟩, ⟨by repeat (first | (with_reducible first | exact HB.out | apply below_alloc | apply pw_below_drewN | apply below_drew1) | exact HB.out)⟩⟩
          · replace c13 := Bool.eq_false_iff.mpr c13
            subst c13
            have H1 : ((spec_l00Own.f l1).bind fun t237 => (if t237.length < 17592186044416 then ((spec_l05Orders.f k1 a0 (t237 ++ [x6_1])).bind fun t243 => (if x5_1.length + t243.length < 5864062014805 then (spec_l05Orders.l0 k1 a0 l1 (x5_1 ++ t243) (wrap64 (x6_1 + 1))) else (none))) else (none))) = some r := by rw [if_neg (show ¬ (false = true) by decide)] at H; exact H
            clear H
            have H := H1
            clear H1
            replace H := Option.bind_eq_some_iff.mp H
            obtain ⟨t237, A140, H⟩ := H
            replace H : (if t237.length < 17592186044416 then ((spec_l05Orders.f k1 a0 (t237 ++ [x6_1])).bind fun t243 => (if x5_1.length + t243.length < 5864062014805 then (spec_l05Orders.l0 k1 a0 l1 (x5_1 ++ t243) (wrap64 (x6_1 + 1))) else (none))) else (none)) = some r := H
            have A14 := Aside0.mk A140
            clear A140
            by_cases c15 : t237.length < 17592186044416
            · rw [if_pos c15] at H
              have LMc15 := Aside0.mk c15
              clear c15
              obtain ⟨y240, hy240⟩ : ∃ y_ : List Int, y_ = (t237 ++ [x6_1]) := ⟨_, rfl⟩
              replace H : ((spec_l05Orders.f k1 a0 y240).bind fun t243 => (if x5_1.length + t243.length < 5864062014805 then (spec_l05Orders.l0 k1 a0 l1 (x5_1 ++ t243) (wrap64 (x6_1 + 1))) else (none))) = some r := by first | (rw [hy240]; with_reducible exact H) | (have H2_ := (Option.bind_some _ _).symm.trans H; rw [hy240]; with_reducible exact H2_) | (have H2_ := (Option.bind_some _ _).symm.trans H; with_reducible exact H2_) | with_reducible exact H | (rw [hy240]; exact H) | exact H
              have Ny240 := Aside0.mk hy240
              clear hy240
              replace H := Option.bind_eq_some_iff.mp H
              obtain ⟨t243, A160, H⟩ := H
              replace H : (if x5_1.length + t243.length < 5864062014805 then (spec_l05Orders.l0 k1 a0 l1 (x5_1 ++ t243) (wrap64 (x6_1 + 1))) else (none)) = some r := H
              have A16 := Aside0.mk A160
              clear A160
              by_cases c17 : x5_1.length + t243.length < 5864062014805
              · rw [if_pos c17] at H
                have LMc17 := Aside0.mk c17
                clear c17
                obtain ⟨y246, hy246⟩ : ∃ y_ : List (List Int), y_ = (x5_1 ++ t243) := ⟨_, rfl⟩
                replace H : (spec_l05Orders.l0 k1 a0 l1 y246 (wrap64 (x6_1 + 1))) = some r := by first | (rw [hy246]; with_reducible exact H) | (have H2_ := (Option.bind_some _ _).symm.trans H; rw [hy246]; with_reducible exact H2_) | (have H2_ := (Option.bind_some _ _).symm.trans H; with_reducible exact H2_) | with_reducible exact H | (rw [hy246]; exact H) | exact H
                have Ny246 := Aside0.mk hy246
                clear hy246
                have H' := Aside0.mk H
                clear H
                go_wp2_with (first | ((with_reducible refine gate_callee (f := 42) rfl ?_); refine goesL_ (some 22) rfl rfl Try.func42 (by kernel_rfl) rfl #[.slice A1 l1.length c1, .int .i64 x6_1] rfl (by (try simp only [List.map_toArray, List.map_cons, List.map_nil]); first | done | rfl | (simp only [List.length_drop, List.length_take]; rfl)) ?_; (with_reducible refine (spec_l00Has.calls k1 _ _ l1 x6_1 false _ ?side1 ?side2 A12.out).mono ?_); (case side1 => repeat (first | exact (Kd.C_below HR1.out HB.out) | (with_reducible refine Kd.C_alloc ?_ _) | (with_reducible refine Kd.C_drewN ?_ _) | (with_reducible refine Kd.C_drew ?_))); (case side2 => exact HC1.out); rintro e w' ⟨rfl, ⟨nd, rfl⟩⟩; refine ⟨_, rfl, ?_⟩) | ((with_reducible refine gate_callee (f := 55) rfl ?_); refine goesL_ (some 27) rfl rfl Try.func55 (by kernel_rfl) rfl #[.slice A1 l1.length c1] rfl (by (try simp only [List.map_toArray, List.map_cons, List.map_nil]); first | done | rfl | (simp only [List.length_drop, List.length_take]; rfl)) ?_; (with_reducible refine (spec_l00Own.calls _ _ l1 t237 _ ?side1 ?side2 A14.out).mono ?_); (case side1 => repeat (first | exact (Kd.C_below HR1.out (by repeat (first | (with_reducible first | exact HB.out | apply below_alloc | apply pw_below_drewN | apply below_drew1) | exact HB.out))) | (with_reducible refine Kd.C_alloc ?_ _) | (with_reducible refine Kd.C_drewN ?_ _) | (with_reducible refine Kd.C_drew ?_))); (case side2 => exact HC1.out); rintro e w18 ⟨v238, rfl, ho0, hb⟩; refine ⟨_, rfl, ?_⟩; have n0_ := Aside0.mk (Kd.N_elder' (by (with_reducible repeat (first | apply Kd.N_alloc | apply Kd.N_drewN | apply Kd.N_drew)); exact HO_5.out) (Kd.R_base ho0) hb); have n1_ := Aside0.mk (Kd.R_lower (Kd.R_newM (M := fun k_ => (w.heap.size ≤ k_)) ho0 (below_size (by repeat (first | (with_reducible first | exact HB.out | apply below_alloc | apply pw_below_drewN | apply below_drew1) | exact HB.out))) (fun k_ h_ => h_)) (below_size (by repeat (first | (with_reducible first | exact HB.out | apply below_alloc | apply pw_below_drewN | apply below_drew1) | exact HB.out)))); have n2_ := Aside0.mk (below_step (by repeat (first | (with_reducible first | exact HB.out | apply below_alloc | apply pw_below_drewN | apply below_drew1) | exact HB.out)) hb); clear HO_5; clear HB; have HO_5 := n0_; have HO239 := n1_; have HB := n2_; clear n0_ n1_ n2_; (try clear hb); (try clear hb2); (try clear hk); (try clear hi); (try clear ho0)) | ((with_reducible refine gate_builtin (b := .append) (xs := #[.tmp 27, .tmp 29]) rfl ?_); at_builtin; refine Kd.R_append (Kd.int .i64) (w0 := w) w.heap.size rfl (.tmp 27) (.tmp 29) 24 2 (.int .i64 0) 8 rfl Try.underlying24 info2 rfl (by decide) (by omega) v238 t237 x6_1 [.int .i64 x6_1] (fun k_ => (w.heap.size ≤ k_)) (fun _ => False) rfl rfl ?aP (fun _ hk => hk.elim) ?aF ?aO ?aB ?aS ?aL ?_; (case aP => exact rfl); (case aB => exact (by repeat (first | (with_reducible first | exact HB.out | apply below_alloc | apply pw_below_drewN | apply below_drew1) | exact HB.out))); (case aF => exact (fun k_ hk => (Nat.le_trans (below_size (by repeat (first | (with_reducible first | exact HB.out | apply below_alloc | apply pw_below_drewN | apply below_drew1) | exact HB.out))) hk))); (case aO => exact (by (with_reducible repeat (first | apply Kd.R_alloc | apply Kd.R_drewN | apply Kd.R_drew)); exact Kd.R_mono HO239.out (fun _ hk => hk.1))); (case aS => exact (below_size (by repeat (first | (with_reducible first | exact HB.out | apply below_alloc | apply pw_below_drewN | apply below_drew1) | exact HB.out)))); (case aL => have := LMc15.out; omega); intro v241 w19 ho hb hg hat; rw [← Ny240.out] at ho; have n0_ := Aside0.mk (Kd.N_afterv (ok := (fun k_ => (w.heap.size ≤ k_))) (by (with_reducible repeat (first | apply Kd.N_alloc | apply Kd.N_drewN | apply Kd.N_drew)); exact HO_5.out) hg hat); have n1_ := Aside0.mk (hb); have n2_ := Aside0.mk (ho); clear HO_5; clear HB; clear HO239; have HO_5 := n0_; have HB := n1_; have HO242 := n2_; clear n0_ n1_ n2_; clear ho hb hg hat; obtain ⟨Ao20, co20, eo20⟩ := Kd.R_slice HO242.out; subst eo20) | ((with_reducible refine gate_callee (f := 45) rfl ?_); refine goesL_ (some 31) rfl rfl Try.func45 (by kernel_rfl) rfl #[.int .i64 a0, .slice Ao20 y240.length co20] rfl (by (try simp only [List.map_toArray, List.map_cons, List.map_nil]); first | done | rfl | (simp only [List.length_drop, List.length_take]; rfl)) ?_; (with_reducible refine (ih k1 (by have := HK1.out; omega) a0 _ _ y240 t243 _ ?side1 ?side2 A16.out).mono ?_); (case side1 => repeat (first | exact (Kd.R_reads' HO242.out).2.2 | (with_reducible refine Kd.C_alloc ?_ _) | (with_reducible refine Kd.C_drewN ?_ _) | (with_reducible refine Kd.C_drew ?_))); (case side2 => exact (Kd.R_reads' HO242.out).2.1); rintro e w21 ⟨v244, rfl, ho0, hb⟩; refine ⟨_, rfl, ?_⟩; have n0_ := Aside0.mk (Kd.N_elder' (by (with_reducible repeat (first | apply Kd.N_alloc | apply Kd.N_drewN | apply Kd.N_drew)); exact HO_5.out) (Kd.N_base ho0) hb); have n1_ := Aside0.mk (Kd.R_below (by (with_reducible repeat (first | apply Kd.R_alloc | apply Kd.R_drewN | apply Kd.R_drew)); exact HO242.out) hb); have n2_ := Aside0.mk (Kd.N_lower (Kd.N_mono (ok' := fun k_ => (w.heap.size ≤ k_) ∧ some k_ ≠ (u5 : Value).ownBlock ∧ some k_ ≠ (.slice Ao20 y240.length co20 : Value).ownBlock) ho0 (fun k_ hk_ => ⟨(Nat.le_trans (below_size (by repeat (first | (with_reducible first | exact HB.out | apply below_alloc | apply pw_below_drewN | apply below_drew1) | exact HB.out))) hk_), (Kd.fresh' (Kd.N_lt (by (with_reducible repeat (first | apply Kd.N_alloc | apply Kd.N_drewN | apply Kd.N_drew)); exact HO_5.out)) k_ hk_), (Kd.fresh' (Kd.R_lt (by (with_reducible repeat (first | apply Kd.R_alloc | apply Kd.R_drewN | apply Kd.R_drew)); exact HO242.out)) k_ hk_)⟩)) (below_size (by repeat (first | (with_reducible first | exact HB.out | apply below_alloc | apply pw_below_drewN | apply below_drew1) | exact HB.out)))); have n3_ := Aside0.mk (below_step (by repeat (first | (with_reducible first | exact HB.out | apply below_alloc | apply pw_below_drewN | apply below_drew1) | exact HB.out)) hb); clear HO_5; clear HO242; clear HB; have HO_5 := n0_; have HO242 := n1_; have HO245 := n2_; have HB := n3_; clear n0_ n1_ n2_ n3_; (try clear hb); (try clear hb2); (try clear hk); (try clear hi); (try clear ho0); obtain ⟨Ao23, co23, eo23⟩ := Kd.N_slice HO245.out; subst eo23) | ((with_reducible refine gate_builtin (b := .append) (xs := #[.tmp 24, .tmp 31]) rfl ?_); at_builtin; refine Kd.N_append_rows (Kd.slice 2 (Kd.int .i64)) (w0 := w) w.heap.size rfl (.tmp 24) (.tmp 31) 52 24 (.slice none 0 0) 24 rfl Try.underlying52 info24 rfl (by decide) (by omega) u5 x5_1 t243 _ _ _ (fun k_ => (w.heap.size ≤ k_) ∧ some k_ ≠ (.slice Ao20 y240.length co20 : Value).ownBlock) (fun k_ => ((fun k_ => (w.heap.size ≤ k_) ∧ some k_ ≠ (.slice Ao20 y240.length co20 : Value).ownBlock)) k_ ∧ some k_ ≠ (u5 : Value).ownBlock) rfl rfl ?aO ?aR (fun _ hk => hk) ?aF ?aB ?aS ?aL ?_; (case aR => exact (by skip; exact Kd.N_F (Kd.N_mono (ok' := (fun k_ => ((fun k_ => (w.heap.size ≤ k_) ∧ some k_ ≠ (.slice Ao20 y240.length co20 : Value).ownBlock)) k_ ∧ some k_ ≠ (u5 : Value).ownBlock)) (HO245.out) (fun k_ hk => ⟨⟨hk.1, hk.2.2⟩, hk.2.1⟩)))); (case aB => exact (by repeat (first | (with_reducible first | exact HB.out | apply below_alloc | apply pw_below_drewN | apply below_drew1) | exact HB.out))); (case aF => exact (fun k_ hk => ⟨(Nat.le_trans (below_size (by repeat (first | (with_reducible first | exact HB.out | apply below_alloc | apply pw_below_drewN | apply below_drew1) | exact HB.out))) hk), Kd.fresh' (Kd.R_lt (by (with_reducible repeat (first | apply Kd.R_alloc | apply Kd.R_drewN | apply Kd.R_drew)); exact HO242.out)) k_ hk⟩)); (case aO => exact (by (with_reducible repeat (first | apply Kd.N_alloc | apply Kd.N_drewN | apply Kd.N_drew)); exact Kd.N_mono HO_5.out (fun _ hk => ⟨hk.1.1, hk.1.2⟩))); (case aS => exact (below_size (by repeat (first | (with_reducible first | exact HB.out | apply below_alloc | apply pw_below_drewN | apply below_drew1) | exact HB.out)))); (case aL => have := LMc17.out; omega); intro v247 w22 ho hb hg hat; rw [← Ny246.out] at ho; have n0_ := Aside0.mk (Kd.R_over' (by (with_reducible repeat (first | apply Kd.R_alloc | apply Kd.R_drewN | apply Kd.R_drew)); exact HO242.out) (Kd.N_typed (by (with_reducible repeat (first | apply Kd.N_alloc | apply Kd.N_drewN | apply Kd.N_drew)); exact HO_5.out)) (by decide) hg); have n1_ := Aside0.mk (Kd.N_afterv (ok := (fun k_ => (w.heap.size ≤ k_) ∧ some k_ ≠ (.slice Ao20 y240.length co20 : Value).ownBlock)) (by (with_reducible repeat (first | apply Kd.N_alloc | apply Kd.N_drewN | apply Kd.N_drew)); exact Kd.N_mono HO245.out (fun _ hk => ⟨⟨hk.1, hk.2.2⟩, hk.2.1⟩)) hg hat); have n2_ := Aside0.mk (hb); have n3_ := Aside0.mk (ho); clear HO242; clear HO245; clear HB; clear HO_5; have HO242 := n0_; have HO245 := n1_; have HB := n2_; have HO248 := n3_; clear n0_ n1_ n2_ n3_; clear ho hb hg hat))
                go_roundg k1
                case measure => have := HK1.out; omega
                case rel => exact ⟨(y246), (wrap64 (x6_1 + 1)), (by first | rfl | (simp; done) | (simp [*]; done)), H', ⟨by have := HK1.out; omega⟩, ⟨by (with_reducible repeat (first | apply Kd.N_alloc | apply Kd.N_drewN | apply Kd.N_drew)); exact Kd.N_mono HO248.out (fun _ hk => hk.1)⟩, ⟨by repeat (first | (with_reducible first | exact HB.out | apply below_alloc | apply pw_below_drewN | apply below_drew1) | exact HB.out)⟩⟩
              · rw [if_neg c17] at H
                exact absurd H (by simp)
            · rw [if_neg c15] at H
              exact absurd H (by simp)
        · rw [if_neg c11] at H
          have c11b0 : decide (x6_1 < a0) = false := decide_eq_false c11
          clear c11
          obtain rfl := Option.some.inj H
          go_wp2
          go_ret
          exact ⟨_, by first | rfl | (simp [errW_none, errW_some] <;> rfl) | (simp [*, errW_none, errW_some] <;> rfl), by (with_reducible repeat (first | apply Kd.N_alloc | apply Kd.N_drewN | apply Kd.N_drew)); exact HO_5.out, by repeat (first | (with_reducible first | exact HB.out | apply below_alloc | apply pw_below_drewN | apply below_drew1) | exact HB.out)⟩
end Go.Proofs.Ytcibhhkpnakkgaa.Q
