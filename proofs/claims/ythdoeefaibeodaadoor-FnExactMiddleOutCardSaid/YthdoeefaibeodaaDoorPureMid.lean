/- The plain law of MiddleOut. -/
import Derived.Test.YthdoeefaibeodaaDoorPureText
import Derived.Test.YthdoeefaibeodaaDoorQ3
import Derived.Test.YthdoeefaibeodaaDoorQ8
import Derived.Test.YthdoeefaibeodaaDoorQ7
import Derived.Test.YthdoeefaibeodaaDoorQ11
namespace Go.Proofs.YthdoeefaibeodaaDoor.Pure
open Go.RowKit Go.Proofs.YthdoeefaibeodaaDoor.Ext Go.Proofs.YthdoeefaibeodaaDoor.Q Go.Proofs.YthdoeefaibeodaaDoor.Txt Go.Proofs.YthdoeefaibeodaaDoorW.PrintWords Go.Proofs.YthdoeefaibeodaaDoorW.PrintLast Go.Proofs.YthdoeefaibeodaaDoorW.PrintMore
set_option linter.unusedVariables false
set_option linter.unusedSimpArgs false
theorem index_l0 (l : List Int) (x : Int) (hl : l.length ≤ 4611686018427387904) : ∀ (d k i : Nat), i + d = l.length → d < k →
    ∃ r, slices_Index_int64_int64.l0 k l x (l.length : Int) i = some r ∧ (0 ≤ r ↔ x ∈ l.drop i)
  | 0, k, i, hd, hk => by
    obtain ⟨k, rfl⟩ := some_k hk
    refine ⟨-1, ?_, ?_⟩
    · simp only [slices_Index_int64_int64.l0]
      rw [if_neg (by omega)]
    · rw [List.drop_eq_nil_of_le (by omega)]; simp
  | d + 1, k, i, hd, hk => by
    obtain ⟨k, rfl⟩ := some_k hk
    obtain ⟨r, hr, hr2⟩ := index_l0 l x hl d k (i + 1) (by omega) (by omega)
    by_cases hx : x = rd l i
    · refine ⟨i, ?_, ?_⟩
      · simp only [slices_Index_int64_int64.l0]
        rw [if_pos (by omega), if_pos (by omega), if_pos (by omega), if_pos hx]
      · rw [drop_cons l i (by omega)]
        constructor
        · intro _; rw [hx]; simp
        · intro _; omega
    · refine ⟨r, ?_, ?_⟩
      · simp only [slices_Index_int64_int64.l0]
        rw [if_pos (by omega), if_pos (by omega), if_pos (by omega), if_neg hx, wrap_succ i (by omega), hr]
      · rw [hr2, drop_cons l i (by omega)]; simp [hx]
theorem contains_eq (l : List Int) (x : Int) (hl : l.length ≤ 4611686018427387904) {k : Nat} (hk : l.length < k) : slices_Contains_int64_int64.f k l x = some (decide (x ∈ l)) := by
  unfold slices_Contains_int64_int64.f slices_Index_int64_int64.f
  obtain ⟨r, hr, hr2⟩ := index_l0 l x hl l.length k 0 (by omega) hk
  rw [show ((0 : Nat) : Int) = 0 from rfl] at hr
  rw [hr, Option.bind_some]
  congr 1
  rw [Bool.eq_iff_iff, decide_eq_true_iff, decide_eq_true_iff]
  simpa using hr2
/-- The places that lie so far from the middle. -/
def step (m k : Nat) : List Int :=
  if k = 0 then (if 0 < m then [((m / 2 : Nat) : Int)] else [])
  else (if k ≤ m / 2 then [((m / 2 : Nat) : Int) - k] else []) ++ (if m / 2 + k < m then [((m / 2 : Nat) : Int) + k] else [])
def mid (m : Nat) : List Int := (List.range' 0 (m + 1)).flatMap (step m)
theorem tdiv2 (m : Nat) : Int.tdiv (m : Int) 2 = ((m / 2 : Nat) : Int) := by
  rw [Int.tdiv_eq_ediv_of_nonneg (by omega)]; omega
theorem step_len (m k : Nat) : (step m k).length ≤ 2 := by
  unfold step
  split
  · split <;> simp
  · split <;> split <;> simp
theorem spec_mid_l1 (m : Nat) (hm : m ≤ 60) : ∀ (d K k : Nat) (acc : List Int), k + d = m + 1 → 4 * d < K → acc.length ≤ 2 * k →
    spec_MiddleOut.l1 K m acc k = some (acc ++ (List.range' k d).flatMap (step m), 0)
  | 0, K, k, acc, hd, hK, ha => by
    obtain ⟨K, rfl⟩ := some_k hK
    simp only [spec_MiddleOut.l1]
    rw [if_neg (by omega)]
    simp
  | d + 1, K, k, acc, hd, hK, ha => by
    obtain ⟨K, rfl⟩ : ∃ K', K = K' + 4 := ⟨K - 4, by omega⟩
    have ih := spec_mid_l1 m hm d K (k + 1) (acc ++ step m k) (by omega) (by omega) (by rw [List.length_append]; have := step_len m k; omega)
    have e1 : wrap64 ((m / 2 : Nat) : Int) = ((m / 2 : Nat) : Int) := w64 (by omega) (by omega)
    have e2 : wrap64 (((m / 2 : Nat) : Int) - k) = ((m / 2 : Nat) : Int) - k := w64 (by omega) (by omega)
    have e3 : wrap64 (((m / 2 : Nat) : Int) + k) = ((m / 2 : Nat) : Int) + k := w64 (by omega) (by omega)
    have e4 := wrap_succ k (by omega)
    rw [List.range'_succ, List.flatMap_cons, ← List.append_assoc, ← ih]
    simp only [spec_MiddleOut.l1, spec_MiddleOut.j2, spec_MiddleOut.j3, spec_MiddleOut.j4, tdiv2, e1, e2, e3, e4]
    rw [if_pos (by omega)]
    by_cases hk : k = 0
    · subst hk
      rw [if_pos (by omega)]
      by_cases h0 : 0 < m
      · have h0' : decide ((m : Int) > 0) = true := by simp; omega
        rw [h0', if_pos rfl, if_pos (by omega), if_neg (by omega)]
        simp [step, h0]
      · have h0' : decide ((m : Int) > 0) = false := by simp; omega
        rw [h0', if_neg (by simp), if_neg (by omega)]
        simp [step, h0]
    · rw [if_neg (by omega), if_neg (by simp), if_pos (by omega)]
      by_cases h1 : k ≤ m / 2
      · have h1' : decide (((m / 2 : Nat) : Int) - k ≥ 0) = true := by simp; omega
        rw [h1', if_pos rfl, if_pos (by omega), Option.bind_some, if_pos (by omega)]
        by_cases h2 : m / 2 + k < m
        · rw [if_pos (by omega), if_pos (by simp; omega)]
          simp [step, hk, h1, h2]
        · rw [if_neg (by omega)]
          simp [step, hk, h1, h2]
      · have h1' : decide (((m / 2 : Nat) : Int) - k ≥ 0) = false := by simp; omega
        rw [h1', if_neg (by simp), if_pos (by omega)]
        by_cases h2 : m / 2 + k < m
        · rw [if_pos (by omega), if_pos (by omega)]
          simp [step, hk, h1, h2]
        · rw [if_neg (by omega)]
          simp [step, hk, h1, h2]
theorem spec_mid_l0 (s : ByteArray) (hs : s.size ≤ 60) : ∀ (d K i c : Nat), i + d = s.size → 4 * 61 + 1 + d < K → c ≤ i →
    c + (letters (s.data.toList.drop i)).length ≤ 60 →
    spec_MiddleOut.l0 K s c i = some (mid (c + (letters (s.data.toList.drop i)).length), 0)
  | 0, K, i, c, hd, hK, hc, hn => by
    have hlen : s.data.toList.length = s.size := data_length s
    obtain ⟨K, rfl⟩ := some_k hK
    simp only [spec_MiddleOut.l0]
    rw [if_neg (by omega), List.drop_eq_nil_of_le (by omega)]
    have := spec_mid_l1 c (by omega) (c + 1) K 0 [] (by omega) (by omega) (by simp)
    rw [show ((0 : Nat) : Int) = 0 from rfl] at this
    rw [this]; rfl
  | d + 1, K, i, c, hd, hK, hc, hn => by
    have hlen : s.data.toList.length = s.size := data_length s
    obtain ⟨K, rfl⟩ := some_k hK
    have hi : i < s.data.toList.length := by omega
    have hg : s.data.toList.getD i 0 = s.data.toList[i] := by rw [List.getD_eq_getElem?_getD, List.getElem?_eq_getElem hi]; rfl
    simp only [spec_MiddleOut.l0]
    rw [if_pos (by omega), if_pos (by omega), bt_get s i hi, wrap_succ i (by omega), wrap_succ c (by omega)]
    rw [List.drop_eq_getElem_cons hi] at hn ⊢
    by_cases h : s.data.toList.getD i 0 = 32
    · have e : letters (s.data.toList[i] :: s.data.toList.drop (i + 1)) = letters (s.data.toList.drop (i + 1)) := by rw [← hg, h]; rfl
      rw [e] at hn ⊢
      rw [if_pos ((is32 _).2 h)]
      exact spec_mid_l0 s hs d K (i + 1) c (by omega) (by omega) (by omega) hn
    · have e : letters (s.data.toList[i] :: s.data.toList.drop (i + 1)) = s.data.toList[i] :: letters (s.data.toList.drop (i + 1)) := by
        rw [← hg]
        unfold letters
        rw [List.filter_cons_of_pos (by simpa using h)]
      rw [e, List.length_cons] at hn ⊢
      rw [if_neg (fun h' => h ((is32 _).1 h'))]
      rw [spec_mid_l0 s hs d K (i + 1) (c + 1) (by omega) (by omega) (by omega) (by omega)]
      rw [show c + 1 + (letters (s.data.toList.drop (i + 1))).length = c + ((letters (s.data.toList.drop (i + 1))).length + 1) by omega]
/-- What MiddleOut answers. -/
def midC (s : ByteArray) : List Int × Int := if txt s.data.toList then (mid (letters s.data.toList).length, 0) else ([], 1)
theorem txt_le {s : ByteArray} (h : txt s.data.toList = true) : s.size ≤ 60 := by
  unfold txt at h
  simp only [Bool.and_eq_true, decide_eq_true_eq] at h
  have := data_length s
  omega
theorem spec_mid_eq (s : ByteArray) (hs : s.size ≤ 1048576) {K : Nat} (hK : 400 + s.size < K) : spec_MiddleOut.f K s = some (midC s) := by
  unfold spec_MiddleOut.f midC
  rw [text_eq s (by omega) (by omega), Option.bind_some]
  by_cases h : txt s.data.toList = true
  · have h60 := txt_le h
    have hle := letters_le s.data.toList
    rw [data_length] at hle
    rw [if_pos h, if_pos h]
    have := spec_mid_l0 s h60 s.size K 0 0 (by omega) (by omega) (by omega) (by simpa using (by omega : (letters s.data.toList).length ≤ 60))
    simpa using this
  · rw [if_neg h, if_neg h]
theorem impl_mid_l1 (m : Nat) (hm : m ≤ 60) (k : Nat) (hk : k ≤ m) (K : Nat) (acc : List Int) (hK : 200 < K) (ha : acc.length ≤ 2 * k) (hin : ∀ x ∈ acc, ((m / 2 : Nat) : Int) - k < x ∧ x < ((m / 2 : Nat) : Int) + k) :
    ∃ K', K' + 3 = K ∧ impl_MiddleOut.l1 K m acc ((m + 1 : Nat) : Int) k [((m / 2 : Nat) : Int) - k, ((m / 2 : Nat) : Int) + k] 2 0 = impl_MiddleOut.l0 K' m (acc ++ step m k) ((m + 1 : Nat) : Int) ((k + 1 : Nat) : Int) := by
  obtain ⟨K, rfl⟩ : ∃ K', K = K' + 3 := ⟨K - 3, by omega⟩
  refine ⟨K, rfl, ?_⟩
  have em : wrap64 ((m : Int) - 1) = (m : Int) - 1 := w64 (by omega) (by omega)
  have e4 := wrap_succ k (by omega)
  have f0 : wrap64 (0 + 1) = 1 := by unfold wrap64; omega
  have f1 : wrap64 (1 + 1) = 2 := by unfold wrap64; omega
  have last : ∀ A, impl_MiddleOut.l1 (K + 1) m A ((m + 1 : Nat) : Int) k [((m / 2 : Nat) : Int) - k, ((m / 2 : Nat) : Int) + k] 2 2 = impl_MiddleOut.l0 K m A ((m + 1 : Nat) : Int) ((k + 1 : Nat) : Int) := by
    intro A
    simp only [impl_MiddleOut.l1]
    rw [if_neg (by omega), e4]
  have second : ∀ A : List Int, A.length ≤ 2 * k + 1 → impl_MiddleOut.l1 (K + 2) m A ((m + 1 : Nat) : Int) k [((m / 2 : Nat) : Int) - k, ((m / 2 : Nat) : Int) + k] 2 1 =
      impl_MiddleOut.l0 K m (if m / 2 + k < m ∧ ((m / 2 : Nat) : Int) + k ∉ A then A ++ [((m / 2 : Nat) : Int) + k] else A) ((m + 1 : Nat) : Int) ((k + 1 : Nat) : Int) := by
    intro A hA
    rw [impl_MiddleOut.l1, if_pos (by omega), if_pos (by omega), if_pos (by simp), show rd [((m / 2 : Nat) : Int) - k, ((m / 2 : Nat) : Int) + k] 1 = ((m / 2 : Nat) : Int) + k from rfl, em, f1, within_eq, Option.bind_some, contains_eq A _ (by omega) (by omega), Option.bind_some]
    by_cases h1 : m / 2 + k < m
    · have hb : inB (((m / 2 : Nat) : Int) + k) 0 ((m : Int) - 1) = true := by unfold inB; simp; omega
      rw [hb, if_pos rfl]
      by_cases h2 : ((m / 2 : Nat) : Int) + k ∈ A
      · rw [decide_eq_true h2, if_pos rfl, if_neg (fun h => h.2 h2)]; exact last _
      · rw [decide_eq_false h2, if_neg (by simp), if_pos (by omega), if_pos ⟨h1, h2⟩]; exact last _
    · have hb : inB (((m / 2 : Nat) : Int) + k) 0 ((m : Int) - 1) = false := by unfold inB; simp; omega
      rw [hb, if_neg (by simp), if_neg (fun h => h1 h.1)]; exact last _
  rw [impl_MiddleOut.l1, if_pos (by omega), if_pos (by omega), if_pos (by simp), show rd [((m / 2 : Nat) : Int) - k, ((m / 2 : Nat) : Int) + k] 0 = ((m / 2 : Nat) : Int) - k from rfl, em, f0, within_eq, Option.bind_some, contains_eq acc _ (by omega) (by omega), Option.bind_some]
  have hno1 : ((m / 2 : Nat) : Int) - k ∉ acc := fun h => by have := hin _ h; omega
  have hno2 : ((m / 2 : Nat) : Int) + k ∉ acc := fun h => by have := hin _ h; omega
  by_cases hk0 : k = 0
  · subst hk0
    by_cases h0 : 0 < m
    · have hb : inB (((m / 2 : Nat) : Int) - ((0 : Nat) : Int)) 0 ((m : Int) - 1) = true := by unfold inB; simp; omega
      rw [hb, if_pos rfl, decide_eq_false hno1, if_neg (by simp), if_pos (by omega), second _ (by rw [List.length_append, List.length_singleton]; omega), if_neg (fun h => h.2 (by simp))]
      simp [step, h0]
    · have hb : inB (((m / 2 : Nat) : Int) - ((0 : Nat) : Int)) 0 ((m : Int) - 1) = false := by unfold inB; simp; omega
      rw [hb, if_neg (by simp), second _ (by omega), if_neg (by omega)]
      simp [step, h0]
  · by_cases h1 : k ≤ m / 2
    · have hb : inB (((m / 2 : Nat) : Int) - k) 0 ((m : Int) - 1) = true := by unfold inB; simp; omega
      rw [hb, if_pos rfl, decide_eq_false hno1, if_neg (by simp), if_pos (by omega), second _ (by rw [List.length_append, List.length_singleton]; omega)]
      have hno3 : ((m / 2 : Nat) : Int) + k ∉ acc ++ [((m / 2 : Nat) : Int) - k] := by
        rw [List.mem_append, List.mem_singleton]
        rintro (h | h)
        · exact hno2 h
        · omega
      by_cases h2 : m / 2 + k < m
      · rw [if_pos ⟨h2, hno3⟩]; simp [step, hk0, h1, h2]
      · rw [if_neg (fun h => h2 h.1)]; simp [step, hk0, h1, h2]
    · have hb : inB (((m / 2 : Nat) : Int) - k) 0 ((m : Int) - 1) = false := by unfold inB; simp; omega
      rw [hb, if_neg (by simp), second _ (by omega)]
      by_cases h2 : m / 2 + k < m
      · rw [if_pos ⟨h2, hno2⟩]; simp [step, hk0, h1, h2]
      · rw [if_neg (fun h => h2 h.1)]; simp [step, hk0, h1, h2]
theorem step_in (m k : Nat) (x : Int) (h : x ∈ step m k) : ((m / 2 : Nat) : Int) - (k + 1 : Nat) < x ∧ x < ((m / 2 : Nat) : Int) + (k + 1 : Nat) := by
  unfold step at h
  split at h
  · split at h
    · simp at h; omega
    · simp at h
  · rw [List.mem_append] at h
    rcases h with h | h
    · split at h
      · simp at h; omega
      · simp at h
    · split at h
      · simp at h; omega
      · simp at h
theorem impl_mid_l0 (m : Nat) (hm : m ≤ 60) : ∀ (d K k : Nat) (acc : List Int), k + d = m + 1 → 4 * d + 210 < K → acc.length ≤ 2 * k → (∀ x ∈ acc, ((m / 2 : Nat) : Int) - k < x ∧ x < ((m / 2 : Nat) : Int) + k) →
    impl_MiddleOut.l0 K m acc ((m + 1 : Nat) : Int) k = some (acc ++ (List.range' k d).flatMap (step m), 0)
  | 0, K, k, acc, hd, hK, ha, hin => by
    obtain ⟨K, rfl⟩ := some_k hK
    simp only [impl_MiddleOut.l0]
    rw [if_neg (by omega)]
    simp
  | d + 1, K, k, acc, hd, hK, ha, hin => by
    obtain ⟨K, rfl⟩ := some_k hK
    have e1 : wrap64 ((m / 2 : Nat) : Int) = ((m / 2 : Nat) : Int) := w64 (by omega) (by omega)
    have e2 : wrap64 (((m / 2 : Nat) : Int) - k) = ((m / 2 : Nat) : Int) - k := w64 (by omega) (by omega)
    have e3 : wrap64 (((m / 2 : Nat) : Int) + k) = ((m / 2 : Nat) : Int) + k := w64 (by omega) (by omega)
    obtain ⟨K', hK', h1⟩ := impl_mid_l1 m hm k (by omega) K acc (by omega) ha hin
    simp only [impl_MiddleOut.l0, tdiv2, e1, e2, e3, Option.bind_some]
    rw [if_pos (by omega)]
    rw [show (([((m / 2 : Nat) : Int) - k, ((m / 2 : Nat) : Int) + k] : List Int).length : Int) = 2 from rfl, h1]
    rw [impl_mid_l0 m hm d K' (k + 1) (acc ++ step m k) (by omega) (by omega) (by rw [List.length_append]; have := step_len m k; omega) (fun x hx => by
      rw [List.mem_append] at hx
      rcases hx with hx | hx
      · have := hin x hx; omega
      · exact step_in m k x hx)]
    rw [List.range'_succ, List.flatMap_cons, List.append_assoc]
theorem impl_mid_eq (s : ByteArray) {K : Nat} (hK : 500 < K) : impl_MiddleOut.f K s = some (midC s) := by
  unfold impl_MiddleOut.f midC
  rw [valid_eq s (by omega), Option.bind_some]
  by_cases h : txt s.data.toList = true
  · have h60 := txt_le h
    have hle := letters_le s.data.toList
    rw [data_length] at hle
    rw [if_pos h, if_pos h, lettersOf_eq s (by omega), Option.bind_some]
    have hsz : (⟨(letters s.data.toList).toArray⟩ : ByteArray).size = (letters s.data.toList).length := by simp [ByteArray.size]
    rw [hsz, wrap_succ _ (by omega)]
    have := impl_mid_l0 (letters s.data.toList).length (by omega) ((letters s.data.toList).length + 1) K 0 [] (by omega) (by omega) (by simp) (by simp)
    simpa [mid] using this
  · rw [if_neg h, if_neg h]
theorem midC_len (s : ByteArray) : (midC s).1.length ≤ 200 := by
  have key : ∀ (m d k : Nat), ((List.range' k d).flatMap (step m)).length ≤ 2 * d := by
    intro m d
    induction d with
    | zero => intro k; simp
    | succ d ih =>
      intro k
      rw [List.range'_succ, List.flatMap_cons, List.length_append]
      have := ih (k + 1)
      have := step_len m k
      omega
  unfold midC
  by_cases h : txt s.data.toList = true
  · have h60 := txt_le h
    have hle := letters_le s.data.toList
    rw [data_length] at hle
    rw [if_pos h]
    have := key (letters s.data.toList).length ((letters s.data.toList).length + 1) 0
    show (mid _).length ≤ 200
    unfold mid
    omega
  · rw [if_neg h]; simp
theorem FnExactMiddleOut : laws_FnExactMiddleOut.Pure := by
  intro s _
  refine ⟨s.size + 600, ?_⟩
  unfold laws_FnExactMiddleOut.f
  by_cases h : (s.size : Int) > 1048576
  · rw [if_pos h]
  · have hl := midC_len s
    have hs : ∀ k, 400 + s.size < k → spec_MiddleOut.f k s = some (midC s) := fun k hk => spec_mid_eq s (by omega) hk
    have hi : ∀ k, 500 < k → impl_MiddleOut.f k s = some (midC s) := fun k hk => impl_mid_eq s hk
    rw [if_neg h]
    repeat (first | rw [toInt64S_eq (by omega) (by omega)] | rw [hs _ (by omega)] | rw [hi _ (by omega)] | rw [eqInt64S_self (by omega) (by omega)] | rw [markInt64S_eq (by omega) (by omega) (by omega) (by omega)] | rw [heldInt64S_eq (by omega) (by omega) (by omega) (by omega)] | simp only [Option.bind_some, if_true, bne_self_eq_false, Bool.false_eq_true, if_false, laws_FnExactMiddleOut.j0, laws_FnExactMiddleOut.j1] | rw [if_neg (by omega)])
end Go.Proofs.YthdoeefaibeodaaDoor.Pure
