/- Sharing among any cutters: the search that tries new cutters in order finds what the search through all finds. -/
import Derived.Test.YtgfjmamjfkcmbaaPureTimes
import Derived.Test.YtgfjmamjfkcmbaaExtC
import Derived.Test.YtgfjmamjfkcmbaaExtE
import Derived.Test.YtgfjmamjfkcmbaaQ26
import Derived.Test.YtgfjmamjfkcmbaaQ25
namespace Go.Proofs.Ytgfjmamjfkcmbaa.Pure
open Go.RowKit Go.Proofs.YtgfjmamjfkcmbaaW.PrintWords Go.Proofs.YtgfjmamjfkcmbaaW.PrintMore Go.Proofs.Ytgfjmamjfkcmbaa.Q Go.Proofs.Ytgfjmamjfkcmbaa.Ext
set_option linter.unusedVariables false
set_option linter.unusedSimpArgs false

/-! ### The search over functions: sums as a function of the cutter, no wrapping -/
def up (s : Nat → Int) (k : Nat) (v : Int) : Nat → Int := fun j => if j = k then v else s j
/-- From where the cutters are tried. -/
def fromR (rising : Bool) (lst : List Int) : Nat := fromG rising lst
/-- The search: xs are the times that are left. -/
def srch (cut : Nat) (rising : Bool) : List Int → List Int → (Nat → Int) → Int → List Int × Int → List Int × Int
  | [], lst, s, most, σ => if 0 ≤ σ.2 ∧ σ.2 ≤ most then σ else (lst, most)
  | x :: xs, lst, s, most, σ => if 0 ≤ σ.2 ∧ σ.2 ≤ most then σ else
      (List.range (cut - fromG rising lst)).foldl (fun σ (i : Nat) => srch cut rising xs (lst ++ [((fromG rising lst + i : Nat) : Int)]) (up s (fromG rising lst + i) (s (fromG rising lst + i) + x)) (mxG most (s (fromG rising lst + i) + x)) σ) σ
/-- What a sharing of what is left may come to. -/
def Reach (cut : Nat) (rising : Bool) : List Int → Nat → (Nat → Int) → Int → Int → Prop
  | [], _, _, m, v => v = m
  | x :: xs, f, s, m, v => ∃ k, f ≤ k ∧ k < cut ∧ Reach cut rising xs (if rising then k else 0) (up s k (s k + x)) (mxG m (s k + x)) v
theorem fromG_snoc (rising : Bool) (lst : List Int) (k : Nat) : fromG rising (lst ++ [(k : Int)]) = if rising then k else 0 := by
  unfold fromG
  cases rising with
  | false => simp
  | true =>
    have : rd (lst ++ [(k : Int)]) (((lst ++ [(k : Int)]).length : Int) - 1) = k := by
      unfold rd
      rw [show (((lst ++ [(k : Int)]).length : Int) - 1).toNat = lst.length by simp <;> omega, List.getD_eq_getElem?_getD]
      simp
    rw [if_pos ⟨rfl, by simp⟩, this]
    simp
def srchStep (cut : Nat) (rising : Bool) (x : Int) (xs lst : List Int) (s : Nat → Int) (most : Int) (σ : List Int × Int) (i : Nat) : List Int × Int :=
  srch cut rising xs (lst ++ [((fromG rising lst + i : Nat) : Int)]) (up s (fromG rising lst + i) (s (fromG rising lst + i) + x)) (mxG most (s (fromG rising lst + i) + x)) σ
theorem srch_cons (cut : Nat) (rising : Bool) (x : Int) (xs lst : List Int) (s : Nat → Int) (most : Int) (σ : List Int × Int) :
    srch cut rising (x :: xs) lst s most σ = if 0 ≤ σ.2 ∧ σ.2 ≤ most then σ else (List.range (cut - fromG rising lst)).foldl (srchStep cut rising x xs lst s most) σ := rfl
theorem mxG_ge (a b : Int) : a ≤ mxG a b ∧ b ≤ mxG a b ∧ (mxG a b = a ∨ mxG a b = b) := by unfold mxG; split <;> omega
/-- What is reached is no less than what is there. -/
theorem reach_ge (cut : Nat) (rising : Bool) : ∀ (xs : List Int) (f : Nat) (s : Nat → Int) (m v : Int), Reach cut rising xs f s m v → m ≤ v
  | [], f, s, m, v, h => by have : v = m := h; omega
  | x :: xs, f, s, m, v, h => by
    obtain ⟨k, _, _, h⟩ := h
    have := reach_ge cut rising xs _ _ _ _ h
    have := mxG_ge m (s k + x)
    omega
/-- A search whose least is below all that can be reached leaves all as it was. -/
theorem srch_idle (cut : Nat) (rising : Bool) : ∀ (xs lst : List Int) (s : Nat → Int) (most : Int) (σ : List Int × Int), 0 ≤ σ.2 → (∀ v, Reach cut rising xs (fromG rising lst) s most v → σ.2 ≤ v) → srch cut rising xs lst s most σ = σ
  | [], lst, s, most, σ, h0, h => by
    unfold srch
    exact if_pos ⟨h0, h most rfl⟩
  | x :: xs, lst, s, most, σ, h0, h => by
    rw [srch_cons]
    split
    · rfl
    · have hi : ∀ i, i ≤ cut - fromG rising lst → (List.range i).foldl (srchStep cut rising x xs lst s most) σ = σ := by
        intro i
        induction i with
        | zero => intro _; rfl
        | succ i ih =>
          intro hi
          rw [fold_succ, ih (by omega)]
          unfold srchStep
          refine srch_idle cut rising xs _ _ _ σ h0 (fun v hv => h v ⟨fromG rising lst + i, by omega, by omega, ?_⟩)
          rw [fromG_snoc] at hv
          exact hv
      exact hi _ (Nat.le_refl _)
/-- The least falls, and behind a search it is no greater than all that could be reached. -/
theorem srch_least (cut : Nat) (rising : Bool) : ∀ (xs lst : List Int) (s : Nat → Int) (most : Int) (σ : List Int × Int), 0 ≤ most →
    (0 ≤ σ.2 → 0 ≤ (srch cut rising xs lst s most σ).2 ∧ (srch cut rising xs lst s most σ).2 ≤ σ.2) ∧ (∀ v, Reach cut rising xs (fromG rising lst) s most v → 0 ≤ (srch cut rising xs lst s most σ).2 ∧ (srch cut rising xs lst s most σ).2 ≤ v)
  | [], lst, s, most, σ, hm => by
    unfold srch
    split
    · exact ⟨fun h => ⟨h, Int.le_refl _⟩, fun v hv => by have : v = most := hv; omega⟩
    · exact ⟨fun h => ⟨hm, by dsimp only; omega⟩, fun v hv => ⟨hm, by have : v = most := hv; dsimp only; omega⟩⟩
  | x :: xs, lst, s, most, σ, hm => by
    rw [srch_cons]
    split
    · rename_i hp
      exact ⟨fun h => ⟨h, Int.le_refl _⟩, fun v hv => by have := reach_ge _ _ _ _ _ _ _ hv; omega⟩
    · have hi : ∀ i, i ≤ cut - fromG rising lst → (0 ≤ σ.2 → 0 ≤ ((List.range i).foldl (srchStep cut rising x xs lst s most) σ).2 ∧ ((List.range i).foldl (srchStep cut rising x xs lst s most) σ).2 ≤ σ.2) ∧
          (∀ j v, j < i → Reach cut rising xs (if rising then fromG rising lst + j else 0) (up s (fromG rising lst + j) (s (fromG rising lst + j) + x)) (mxG most (s (fromG rising lst + j) + x)) v → 0 ≤ ((List.range i).foldl (srchStep cut rising x xs lst s most) σ).2 ∧ ((List.range i).foldl (srchStep cut rising x xs lst s most) σ).2 ≤ v) := by
        intro i
        induction i with
        | zero => intro _; exact ⟨fun h => ⟨h, Int.le_refl _⟩, fun j v hj => absurd hj (Nat.not_lt_zero _)⟩
        | succ i ih =>
          intro hi
          obtain ⟨h1, h2⟩ := ih (by omega)
          rw [fold_succ]
          generalize (List.range i).foldl (srchStep cut rising x xs lst s most) σ = σi at h1 h2
          have hmx := mxG_ge most (s (fromG rising lst + i) + x)
          obtain ⟨h3, h4⟩ := srch_least cut rising xs (lst ++ [((fromG rising lst + i : Nat) : Int)]) (up s (fromG rising lst + i) (s (fromG rising lst + i) + x)) (mxG most (s (fromG rising lst + i) + x)) σi (by omega)
          rw [fromG_snoc] at h4
          refine ⟨fun h => ?_, fun j v hj hv => ?_⟩
          · have a := h1 h
            have b := h3 a.1
            exact ⟨b.1, by have := b.2; have := a.2; unfold srchStep; omega⟩
          · by_cases e : j = i
            · subst e; exact h4 v hv
            · have a := h2 j v (by omega) hv
              have b := h3 a.1
              exact ⟨b.1, by have := b.2; have := a.2; unfold srchStep; omega⟩
      obtain ⟨h1, h2⟩ := hi _ (Nat.le_refl _)
      refine ⟨h1, fun v hv => ?_⟩
      obtain ⟨k, hk1, hk2, hk⟩ := hv
      refine h2 (k - fromG rising lst) v (by omega) ?_
      rw [show fromG rising lst + (k - fromG rising lst) = k by omega]
      exact hk

theorem reach_any (cut : Nat) (hc : 0 < cut) : ∀ (xs : List Int) (s : Nat → Int) (m : Int), ∃ v, Reach cut false xs 0 s m v
  | [], s, m => ⟨m, rfl⟩
  | x :: xs, s, m => by
    obtain ⟨v, hv⟩ := reach_any cut hc xs (up s 0 (s 0 + x)) (mxG m (s 0 + x))
    exact ⟨v, 0, Nat.le_refl _, hc, hv⟩
/-! ### Cutters may be exchanged -/
def tau (i j k : Nat) : Nat := if k = i then j else if k = j then i else k
theorem tau_tau (i j k : Nat) : tau i j (tau i j k) = k := by unfold tau; split <;> (try split) <;> (try split) <;> omega
theorem up_tau (i j : Nat) (s : Nat → Int) (k : Nat) (v : Int) : (fun q => up s k v (tau i j q)) = up (fun q => s (tau i j q)) (tau i j k) v := by
  funext q
  unfold up
  by_cases h : tau i j q = k
  · rw [if_pos h, if_pos (by rw [← h, tau_tau])]
  · rw [if_neg h, if_neg (fun e => h (by rw [e, tau_tau]))]
theorem reach_tau (cut i j : Nat) (hi : i < cut) (hj : j < cut) : ∀ (xs : List Int) (s : Nat → Int) (m v : Int), Reach cut false xs 0 s m v → Reach cut false xs 0 (fun q => s (tau i j q)) m v
  | [], s, m, v, h => h
  | x :: xs, s, m, v, h => by
    obtain ⟨k, _, hk, h⟩ := h
    have h1 := reach_tau cut i j hi hj xs _ _ _ h
    rw [up_tau] at h1
    refine ⟨tau i j k, Nat.zero_le _, by unfold tau; split <;> (try split) <;> omega, ?_⟩
    show Reach cut false xs _ (up _ _ (s (tau i j (tau i j k)) + x)) (mxG m (s (tau i j (tau i j k)) + x)) v
    rw [tau_tau]
    exact h1
/-! ### The walked search, without wrapping -/
theorem rd_set_ne (l : List Int) (k q : Nat) (v : Int) (h : q ≠ k) : rd (l.set k v) (q : Int) = rd l (q : Int) := by
  unfold rd
  simp only [Int.toNat_natCast, List.getD_eq_getElem?_getD]
  rw [List.getElem?_set_ne (by omega)]
theorem rd_up (l : List Int) (k : Nat) (v : Int) (h : k < l.length) : (fun (q : Nat) => rd (l.set k v) (q : Int)) = up (fun (q : Nat) => rd l (q : Int)) k v := by
  funext q
  unfold up
  by_cases e : q = k
  · subst e; rw [if_pos rfl, rd_set _ _ _ h]
  · rw [if_neg e, rd_set_ne _ _ _ _ e]
theorem give_srch (t : List Int) (cut : Nat) (rising : Bool) (hb : timesB t = true) (hl : t.length ≤ 12) : ∀ (r : Nat) (lst sums : List Int) (most : Int) (σ : List Int × Int), lst.length + r = t.length → sums.length = cut →
    (∀ k : Nat, k < cut → 0 ≤ rd sums (k : Int) ∧ rd sums (k : Int) ≤ 100000 * lst.length) → giveM t cut rising r lst sums most σ = srch cut rising (t.drop lst.length) lst (fun (q : Nat) => rd sums (q : Int)) most σ
  | 0, lst, sums, most, σ, h, hs, hbd => by
    rw [List.drop_eq_nil_of_le (by omega)]
    rfl
  | r + 1, lst, sums, most, σ, h, hs, hbd => by
    rw [drop_cons t lst.length (by omega), giveM_succ, srch_cons]
    split
    · rfl
    · have hi : ∀ i, i ≤ cut - fromG rising lst → (List.range i).foldl (Go.Proofs.Ytgfjmamjfkcmbaa.Ext.stepG t cut rising r lst sums most) σ = (List.range i).foldl (srchStep cut rising (rd t (lst.length : Int)) (t.drop (lst.length + 1)) lst (fun (q : Nat) => rd sums (q : Int)) most) σ := by
        intro i
        induction i with
        | zero => intro _; rfl
        | succ i ih =>
          intro hi
          rw [fold_succ, fold_succ, ih (by omega)]
          generalize (List.range i).foldl _ σ = σi
          unfold Go.Proofs.Ytgfjmamjfkcmbaa.Ext.stepG srchStep
          have hk : fromG rising lst + i < cut := by omega
          generalize fromG rising lst + i = k at hk
          have h1 := hbd k hk
          have h2 := times_rd hb lst.length (by omega)
          have hadd : addG t sums lst.length k = sums.set k (rd sums (k : Int) + rd t (lst.length : Int)) := by
            unfold addG
            rw [w64 (by omega) (by omega)]
          rw [hadd, rd_set _ _ _ (by omega)]
          have := give_srch t cut rising hb hl r (lst ++ [(k : Int)]) (sums.set k (rd sums (k : Int) + rd t (lst.length : Int))) (mxG most (rd sums (k : Int) + rd t (lst.length : Int))) σi (by simp; omega) (by rw [List.length_set]; exact hs) (by
            intro q hq
            by_cases e : q = k
            · subst e; rw [rd_set _ _ _ (by omega)]; simp; omega
            · rw [rd_set_ne _ _ _ _ e]; have := hbd q hq; simp; omega)
          rw [this, rd_up _ _ _ (by omega)]
          simp
      exact hi _ (Nat.le_refl _)

/-! ### The greatest sum -/
theorem foldMx_spec (l : List Int) : ∀ (a : Int), (l.foldl mx a = a ∨ l.foldl mx a ∈ l) ∧ a ≤ l.foldl mx a ∧ ∀ y ∈ l, y ≤ l.foldl mx a := by
  induction l with
  | nil => intro a; exact ⟨Or.inl rfl, Int.le_refl _, fun y hy => absurd hy (by simp)⟩
  | cons x xs ih =>
    intro a
    obtain ⟨h1, h2, h3⟩ := ih (mx a x)
    have hm : a ≤ mx a x ∧ x ≤ mx a x ∧ (mx a x = a ∨ mx a x = x) := by unfold mx; split <;> omega
    rw [List.foldl_cons]
    refine ⟨?_, by omega, ?_⟩
    · rcases h1 with h1 | h1
      · rw [h1]
        rcases hm.2.2 with e | e
        · exact Or.inl e
        · exact Or.inr (by rw [e]; exact List.mem_cons_self ..)
      · exact Or.inr (List.mem_cons_of_mem _ h1)
    · intro y hy
      rcases List.mem_cons.1 hy with e | e
      · subst e; omega
      · exact h3 y e
theorem foldMax_spec (l : List Int) (h : 0 < l.length) : foldMax l ∈ l ∧ ∀ y ∈ l, y ≤ foldMax l := by
  cases l with
  | nil => simp at h
  | cons x xs =>
    obtain ⟨h1, h2, h3⟩ := foldMx_spec xs x
    refine ⟨?_, fun y hy => ?_⟩
    · rcases h1 with e | e
      · exact List.mem_cons.2 (Or.inl e)
      · exact List.mem_cons.2 (Or.inr e)
    · rcases List.mem_cons.1 hy with e | e
      · subst e; exact h2
      · exact h3 y e
theorem rd_memN (l : List Int) (k : Nat) (h : k < l.length) : rd l (k : Int) ∈ l := rd_mem l k h
theorem mostS_eq (sums : List Int) (M : Int) (h0 : 0 ≤ M) (h1 : M = 0 ∨ M ∈ sums) (h2 : ∀ y ∈ sums, y ≤ M) : mostS sums = M := by
  obtain ⟨a, b⟩ := foldMax_spec (sums ++ [0]) (by simp)
  have c : foldMax (sums ++ [0]) ≤ M := by
    rcases List.mem_append.1 a with e | e
    · exact h2 _ e
    · rw [List.mem_singleton.1 e]; exact h0
  have d : M ≤ foldMax (sums ++ [0]) := by
    rcases h1 with e | e
    · rw [e]; exact b 0 (by simp)
    · exact b M (by simp [e])
  exact Int.le_antisymm c d
theorem mostS_spec (sums : List Int) : 0 ≤ mostS sums ∧ (mostS sums = 0 ∨ mostS sums ∈ sums) ∧ ∀ y ∈ sums, y ≤ mostS sums := by
  obtain ⟨a, b⟩ := foldMax_spec (sums ++ [0]) (by simp)
  refine ⟨b 0 (by simp), ?_, fun y hy => b y (by simp [hy])⟩
  rcases List.mem_append.1 a with e | e
  · exact Or.inr e
  · exact Or.inl (List.mem_singleton.1 e)
theorem mostS_set (l : List Int) (k : Nat) (v : Int) (hk : k < l.length) (hv : rd l (k : Int) ≤ v) : mostS (l.set k v) = mxG (mostS l) v := by
  obtain ⟨a, b, c⟩ := mostS_spec l
  have hm := mxG_ge (mostS l) v
  refine mostS_eq _ _ (by omega) ?_ ?_
  · rcases hm.2.2 with e | e
    · rw [e]
      rcases b with b | b
      · exact Or.inl b
      · by_cases hj : mostS l ∈ l.set k v
        · exact Or.inr hj
        · refine Or.inr ?_
          obtain ⟨j, hj1, hj2⟩ := List.mem_iff_getElem.1 b
          by_cases ej : j = k
          · subst ej
            have : rd l (j : Int) = mostS l := by rw [rd_get _ _ hj1]; exact hj2
            have : mostS l = v := by omega
            rw [this]
            exact List.mem_iff_getElem.2 ⟨j, by simpa using hj1, by simp⟩
          · exact absurd (List.mem_iff_getElem.2 ⟨j, by simpa using hj1, by rw [List.getElem_set_ne (by omega)]; exact hj2⟩) hj
    · exact Or.inr (by rw [e]; exact List.mem_iff_getElem.2 ⟨k, by simpa using hk, by simp⟩)
  · intro y hy
    rcases List.mem_or_eq_of_mem_set hy with h | h
    · have := c y h; omega
    · rw [h]; omega
theorem mostS_snoc (l : List Int) : mostS (l ++ [0]) = mostS l := by
  obtain ⟨a, b, c⟩ := mostS_spec l
  refine mostS_eq _ _ a (b.imp id (fun h => by simp [h])) (fun y hy => ?_)
  rcases List.mem_append.1 hy with h | h
  · exact c y h
  · rw [List.mem_singleton.1 h]; exact a
/-! ### New cutters in order -/
theorem grown_rd (sums : List Int) (k : Nat) (q : Nat) : rd (grownS sums k) (q : Int) = rd sums (q : Int) := by
  unfold grownS
  split
  · unfold rd
    simp only [Int.toNat_natCast, List.getD_eq_getElem?_getD]
    by_cases h : q < sums.length
    · rw [List.getElem?_append_left h]
    · rw [List.getElem?_eq_none (l := sums) (by omega)]
      by_cases h2 : q = sums.length
      · subst h2; simp
      · rw [List.getElem?_eq_none (by simp; omega)]
  · rfl
theorem grown_lenk (sums : List Int) (k : Nat) (h : k ≤ sums.length) : k < (grownS sums k).length ∧ (grownS sums k).length ≤ sums.length + 1 ∧ sums.length ≤ (grownS sums k).length := by
  unfold grownS
  split
  · simp; omega
  · omega
theorem grown_most (sums : List Int) (k : Nat) : mostS (grownS sums k) = mostS sums := by
  unfold grownS
  split
  · exact mostS_snoc sums
  · rfl
/-- What is known of the sums that the program's search hands on. -/
structure okS (t : List Int) (lst sums : List Int) : Prop where
  bd : ∀ k : Nat, 0 ≤ rd sums (k : Int) ∧ rd sums (k : Int) ≤ 100000 * lst.length
theorem nextS_eq (t lst sums : List Int) (k : Nat) (hb : timesB t = true) (hl : t.length ≤ 12) (hp : lst.length < t.length) (ho : okS t lst sums) : nextS t sums lst.length k = (grownS sums k).set k (rd sums (k : Int) + rd t (lst.length : Int)) := by
  unfold nextS
  have h1 := ho.bd k
  have h2 := times_rd hb lst.length hp
  rw [grown_rd, w64 (by omega) (by omega)]
theorem nextS_ok (t lst sums : List Int) (k : Nat) (hb : timesB t = true) (hl : t.length ≤ 12) (hp : lst.length < t.length) (hk : k ≤ sums.length) (ho : okS t lst sums) : okS t (lst ++ [(k : Int)]) (nextS t sums lst.length k) := by
  rw [nextS_eq t lst sums k hb hl hp ho]
  refine ⟨fun q => ?_⟩
  have h2 := times_rd hb lst.length hp
  by_cases e : q = k
  · subst e; rw [rd_set _ _ _ (grown_lenk sums q hk).1]; have := ho.bd q; simp; omega
  · rw [rd_set_ne _ _ _ _ e, grown_rd]; have := ho.bd q; simp; omega
theorem nextS_most (t lst sums : List Int) (k : Nat) (hb : timesB t = true) (hl : t.length ≤ 12) (hp : lst.length < t.length) (hk : k ≤ sums.length) (ho : okS t lst sums) : mostS (nextS t sums lst.length k) = mxG (mostS sums) (rd sums (k : Int) + rd t (lst.length : Int)) := by
  have h2 := times_rd hb lst.length hp
  rw [nextS_eq t lst sums k hb hl hp ho, mostS_set _ _ _ (grown_lenk sums k hk).1 (by rw [grown_rd]; omega), grown_most]
theorem nextS_up (t lst sums : List Int) (k : Nat) (hb : timesB t = true) (hl : t.length ≤ 12) (hp : lst.length < t.length) (hk : k ≤ sums.length) (ho : okS t lst sums) : (fun (q : Nat) => rd (nextS t sums lst.length k) (q : Int)) = up (fun (q : Nat) => rd sums (q : Int)) k (rd sums (k : Int) + rd t (lst.length : Int)) := by
  rw [nextS_eq t lst sums k hb hl hp ho, rd_up _ _ _ (grown_lenk sums k hk).1]
  congr 1
  funext q
  exact grown_rd sums k q
theorem nextS_len (t lst sums : List Int) (k : Nat) (hk : k ≤ sums.length) : (nextS t sums lst.length k).length ≤ sums.length + 1 ∧ sums.length ≤ (nextS t sums lst.length k).length ∧ (k < sums.length → (nextS t sums lst.length k).length = sums.length) := by
  unfold nextS
  rw [List.length_set]
  have := grown_lenk sums k hk
  refine ⟨this.2.1, this.2.2, fun h => ?_⟩
  unfold grownS
  rw [if_neg (by omega)]
theorem choose_idle (t : List Int) (cut : Nat) (hb : timesB t = true) (hl : t.length ≤ 12) : ∀ (r : Nat) (lst sums : List Int) (σ : List Int × Int), lst.length + r = t.length → okS t lst sums → 0 ≤ σ.2 → σ.2 ≤ mostS sums → chooseS t cut r lst sums σ = σ
  | 0, lst, sums, σ, h, ho, h0, h1 => by
    show updS lst sums σ = σ
    unfold updS
    exact if_neg (by omega)
  | r + 1, lst, sums, σ, h, ho, h0, h1 => by
    rw [chooseS_succ]
    have hi : ∀ i, i ≤ min (sums.length + 1) cut → (List.range i).foldl (stepS t cut r lst sums) σ = σ := by
      intro i
      induction i with
      | zero => intro _; rfl
      | succ i ih =>
        intro hi
        rw [fold_succ, ih (by omega)]
        unfold stepS
        have hm := nextS_most t lst sums i hb hl (by omega) (by omega) ho
        have hg := mxG_ge (mostS sums) (rd sums (i : Int) + rd t (lst.length : Int))
        exact choose_idle t cut hb hl r _ _ σ (by simp; omega) (nextS_ok t lst sums i hb hl (by omega) (by omega) ho) h0 (by omega)
    exact hi _ (Nat.le_refl _)
theorem choose_srch (t : List Int) (cut : Nat) (hb : timesB t = true) (hl : t.length ≤ 12) : ∀ (r : Nat) (lst sums : List Int) (σ : List Int × Int), lst.length + r = t.length → sums.length ≤ cut → okS t lst sums →
    chooseS t cut r lst sums σ = srch cut false (t.drop lst.length) lst (fun (q : Nat) => rd sums (q : Int)) (mostS sums) σ
  | 0, lst, sums, σ, h, hs, ho => by
    rw [List.drop_eq_nil_of_le (by omega)]
    show updS lst sums σ = if _ then _ else _
    unfold updS
    by_cases c : 0 ≤ σ.2 ∧ σ.2 ≤ mostS sums
    · rw [if_pos c, if_neg (by omega)]
    · rw [if_neg c, if_pos (by omega)]
  | r + 1, lst, sums, σ, h, hs, ho => by
    have h0 := (mostS_spec sums).1
    rw [drop_cons t lst.length (by omega), srch_cons]
    split
    · rename_i c
      exact choose_idle t cut hb hl (r + 1) lst sums σ h ho c.1 c.2
    · rw [chooseS_succ]
      have hf : fromG false lst = 0 := by unfold fromG; simp
      have hx := times_rd hb lst.length (by omega)
      have hi : ∀ i, i ≤ min (sums.length + 1) cut → (List.range i).foldl (stepS t cut r lst sums) σ = (List.range i).foldl (srchStep cut false (rd t (lst.length : Int)) (t.drop (lst.length + 1)) lst (fun (q : Nat) => rd sums (q : Int)) (mostS sums)) σ := by
        intro i
        induction i with
        | zero => intro _; rfl
        | succ i ih =>
          intro hi
          rw [fold_succ, fold_succ, ih (by omega)]
          generalize (List.range i).foldl _ σ = σi
          unfold stepS srchStep
          rw [hf, Nat.zero_add]
          have hlen := nextS_len t lst sums i (by omega)
          have := choose_srch t cut hb hl r (lst ++ [(i : Int)]) (nextS t sums lst.length i) σi (by simp; omega) (by by_cases e : i < sums.length; rw [hlen.2.2 e]; exact hs; omega) (nextS_ok t lst sums i hb hl (by omega) (by omega) ho)
          rw [this, nextS_up t lst sums i hb hl (by omega) (by omega) ho, nextS_most t lst sums i hb hl (by omega) (by omega) ho]
          simp
      rw [hi _ (Nat.le_refl _), hf, Nat.sub_zero]
      -- what comes behind the first new cutter is idle
      by_cases hm : cut ≤ sums.length + 1
      · rw [show min (sums.length + 1) cut = cut by omega]
      · rw [show min (sums.length + 1) cut = sums.length + 1 by omega]
        have hstate := fold_succ (srchStep cut false (rd t (lst.length : Int)) (t.drop (lst.length + 1)) lst (fun (q : Nat) => rd sums (q : Int)) (mostS sums)) σ sums.length
        have hz : ∀ q : Nat, sums.length ≤ q → rd sums (q : Int) = 0 := by
          intro q hq
          unfold rd
          rw [Int.toNat_natCast, List.getD_eq_getElem?_getD, List.getElem?_eq_none hq]; rfl
        have hleast : ∀ v, Reach cut false (t.drop (lst.length + 1)) 0 (up (fun (q : Nat) => rd sums (q : Int)) sums.length (0 + rd t (lst.length : Int))) (mxG (mostS sums) (0 + rd t (lst.length : Int))) v →
            0 ≤ ((List.range (sums.length + 1)).foldl (srchStep cut false (rd t (lst.length : Int)) (t.drop (lst.length + 1)) lst (fun (q : Nat) => rd sums (q : Int)) (mostS sums)) σ).2 ∧
            ((List.range (sums.length + 1)).foldl (srchStep cut false (rd t (lst.length : Int)) (t.drop (lst.length + 1)) lst (fun (q : Nat) => rd sums (q : Int)) (mostS sums)) σ).2 ≤ v := by
          intro v hv
          rw [hstate]
          generalize (List.range sums.length).foldl _ σ = σi
          unfold srchStep
          rw [hf, Nat.zero_add]
          dsimp only
          have hg := mxG_ge (mostS sums) (rd sums (sums.length : Int) + rd t (lst.length : Int))
          refine (srch_least cut false _ _ _ _ σi (by omega)).2 v ?_
          rw [fromG_snoc, hz _ (Nat.le_refl _)]
          exact hv
        have hj : ∀ d, sums.length + 1 + d ≤ cut → (List.range (sums.length + 1 + d)).foldl (srchStep cut false (rd t (lst.length : Int)) (t.drop (lst.length + 1)) lst (fun (q : Nat) => rd sums (q : Int)) (mostS sums)) σ =
            (List.range (sums.length + 1)).foldl (srchStep cut false (rd t (lst.length : Int)) (t.drop (lst.length + 1)) lst (fun (q : Nat) => rd sums (q : Int)) (mostS sums)) σ := by
          intro d
          induction d with
          | zero => intro _; rfl
          | succ d ih =>
            intro hd
            rw [← Nat.add_assoc, fold_succ, ih (by omega)]
            generalize (List.range (sums.length + 1)).foldl _ σ = σm at hleast
            unfold srchStep
            rw [hf, Nat.zero_add]
            dsimp only
            rw [hz _ (by omega)]
            have key : ∀ v, Reach cut false (t.drop (lst.length + 1)) (fromG false (lst ++ [((sums.length + 1 + d : Nat) : Int)])) (up (fun (q : Nat) => rd sums (q : Int)) (sums.length + 1 + d) (0 + rd t (lst.length : Int))) (mxG (mostS sums) (0 + rd t (lst.length : Int))) v → 0 ≤ σm.2 ∧ σm.2 ≤ v := by
              intro v hv
              rw [fromG_snoc] at hv
              refine hleast v ?_
              have h1 := reach_tau cut sums.length (sums.length + 1 + d) (by omega) (by omega) _ _ _ _ hv
              rw [up_tau] at h1
              have e1 : tau sums.length (sums.length + 1 + d) (sums.length + 1 + d) = sums.length := by unfold tau; split <;> (try split) <;> omega
              have e2 : (fun q => (fun (q : Nat) => rd sums (q : Int)) (tau sums.length (sums.length + 1 + d) q)) = (fun (q : Nat) => rd sums (q : Int)) := by
                funext q
                show rd sums ((tau sums.length (sums.length + 1 + d) q : Nat) : Int) = rd sums (q : Int)
                unfold tau
                split
                · rename_i e; subst e; rw [hz _ (by omega), hz _ (Nat.le_refl _)]
                · split
                  · rename_i e; subst e; rw [hz _ (Nat.le_refl _), hz _ (by omega)]
                  · rfl
              rw [e1, e2] at h1
              exact h1
            by_cases h0' : 0 ≤ σm.2
            · exact srch_idle cut false _ _ _ _ σm h0' (fun v hv => (key v hv).2)
            · -- something can always be reached
              obtain ⟨v, hv⟩ := reach_any cut (by omega) (t.drop (lst.length + 1)) (up (fun (q : Nat) => rd sums (q : Int)) (sums.length + 1 + d) (0 + rd t (lst.length : Int))) (mxG (mostS sums) (0 + rd t (lst.length : Int)))
              exact absurd (key v (by rw [fromG_snoc]; exact hv)).1 h0'
        have := hj (cut - (sums.length + 1)) (by omega)
        rw [show sums.length + 1 + (cut - (sums.length + 1)) = cut by omega] at this
        exact this.symm
/-! ### ShareAny -/
theorem cutters_eq (n : Int) : spec_l05Cutters.f n = some (inB n 1 6) := by
  unfold spec_l05Cutters.f
  rw [in_eq]; rfl
theorem share_same (t : List Int) (cut : Nat) (hb : timesB t = true) (hl : t.length ≤ 12) : chooseS t cut t.length [] [] ([], -1) = giveC t cut false := by
  unfold giveC
  rw [choose_srch t cut hb hl t.length [] [] ([], -1) (by simp) (by simp) ⟨fun k => by simp [rd]⟩, give_srch t cut false hb hl t.length [] (List.replicate cut 0) 0 ([], -1) (by simp) (by simp) (by
    intro k hk
    have : rd (List.replicate cut (0 : Int)) (k : Int) = 0 := by simp [rd, List.getD_eq_getElem?_getD, List.getElem?_replicate]; split <;> rfl
    rw [this]; simp)]
  have e1 : (fun (q : Nat) => rd ([] : List Int) (q : Int)) = fun (q : Nat) => rd (List.replicate cut (0 : Int)) (q : Int) := by
    funext q
    simp [rd, List.getD_eq_getElem?_getD, List.getElem?_replicate]
    split <;> rfl
  rw [e1]
  rfl
theorem spec_share_eq {k : Nat} (t : List Int) (n : Int) (hl : t.length ≤ 1048576) (hk : t.length < k) : spec_ShareAny.f k t n = some (shareC t n) := by
  unfold spec_ShareAny.f shareC
  rw [cutters_eq]
  simp only [Option.bind_some]
  rw [spec_times_eq t _ 8 (by omega) hl hk]
  simp only [Option.bind_some]
  by_cases hz : timesC (inB n 1 6) t 8 = 0
  · obtain ⟨h1, hb, h8⟩ := timesC_zero hz
    obtain ⟨h2, h3⟩ := inB_iff.1 h1
    rw [if_pos hz, if_pos hz, share_same t n.toNat hb (by omega)]
    unfold spec_l05Shared.f
    rw [if_pos ⟨by omega, by omega, by omega⟩]
    rfl
  · rw [if_neg hz, if_neg hz]
end Go.Proofs.Ytgfjmamjfkcmbaa.Pure
