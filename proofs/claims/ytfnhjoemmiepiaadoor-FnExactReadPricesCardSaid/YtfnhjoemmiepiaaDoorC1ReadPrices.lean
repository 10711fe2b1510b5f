/- Contracts and plain laws of functions of the given program; no conditions beside those in the theorems. -/
import Derived.Test.YtfnhjoemmiepiaaDoorC0ReadPrices
import Derived.Test.YtfnhjoemmiepiaaDoorShelf
import Derived.Lib.Split
import Derived.Lib.Replace
import Derived.Lib.SplitLaws
import Derived.Lib.ItoaNum
import Derived.Lib.ParseIntB
namespace Go.Proofs.YtfnhjoemmiepiaaDoor.Ext
open Go.RowKit Go.Proofs.YtfnhjoemmiepiaaDoorW.PrintWords Go.Proofs.YtfnhjoemmiepiaaDoorW.PrintLast Go.Proofs.YtfnhjoemmiepiaaDoorW.PrintMore
set_option linter.unusedVariables false
set_option linter.unusedSimpArgs false
theorem ba_ext {a b : ByteArray} (h : a.data.toList = b.data.toList) : a = b := by
  apply ByteArray.ext
  exact Array.toList_inj.1 h
theorem toList_eq (s : ByteArray) : s.toList = s.data.toList := by
  have loop : ∀ (d i : Nat) (r : List UInt8), i + d = s.size → ByteArray.toList.loop s i r = r.reverse ++ s.data.toList.drop i := by
    intro d
    induction d with
    | zero =>
      intro i r h
      rw [ByteArray.toList.loop, if_neg (by omega)]
      have : s.data.toList.length = s.size := by simp
      rw [List.drop_eq_nil_of_le (by omega)]
      simp
    | succ d ih =>
      intro i r h
      rw [ByteArray.toList.loop, if_pos (by omega), ih (i + 1) _ (by omega)]
      have hl : i < s.data.toList.length := by simp; omega
      rw [List.drop_eq_getElem_cons hl]
      simp [ByteArray.get!]
      rw [getElem!_pos s.data i (by simpa using hl)]
  unfold ByteArray.toList
  have := loop s.size 0 [] (by omega)
  simpa using this
theorem index_cons_self (c : UInt8) (l : List UInt8) : Lib.index (c :: l) [c] = (0 : Nat) := by rw [Lib.index_one]; simp [Lib.indexByte]
theorem index_cons_miss {x c : UInt8} (hx : x ≠ c) {l : List UInt8} (h : Lib.index l [c] = -1) : Lib.index (x :: l) [c] = -1 := by
  rw [Lib.index_one] at h ⊢
  simp [Lib.indexByte, hx, h]
theorem index_cons_hit {x c : UInt8} (hx : x ≠ c) {l : List UInt8} {i : Nat} (h : Lib.index l [c] = i) : Lib.index (x :: l) [c] = (i + 1 : Nat) := by
  rw [Lib.index_one] at h ⊢
  have h0 : ¬ ((i : Int) == -1) = true := by rw [beq_iff_eq]; omega
  have hb : ¬ (x == c) = true := by simpa using hx
  rw [Lib.indexByte, if_neg hb, h, if_neg h0]
  omega
theorem index_two (c : UInt8) (l : List UInt8) : Lib.index l [c] = -1 ∨ ∃ i : Nat, Lib.index l [c] = i := by
  have := Lib.index_ge l [c]
  by_cases h : Lib.index l [c] = -1
  · exact .inl h
  · exact .inr ⟨(Lib.index l [c]).toNat, by omega⟩
theorem count_one (c : UInt8) : ∀ (l : List UInt8) (k : Nat), l.length < k → Lib.countFrom [c] k l = l.count c
  | _, 0, h => absurd h (Nat.not_lt_zero _)
  | [], k + 1, h => by simp [Lib.countFrom, show Lib.index [] [c] = -1 from rfl]
  | x :: l, k + 1, h => by
    by_cases hx : x = c
    · subst hx
      have hb : ¬ (((0 : Nat) : Int) == -1) = true := by decide
      rw [Lib.countFrom, index_cons_self, if_neg hb]
      simp only [Int.toNat_natCast, List.length_singleton, Nat.zero_add, List.drop_one, List.tail_cons]
      rw [count_one x l k (by simp at h; omega)]
      simp; omega
    · have ih := count_one c l (k + 1) (by simp at h; omega)
      rw [List.count_cons_of_ne (by simpa using hx), ← ih]
      rcases index_two c l with hm | ⟨i, hi⟩
      · simp only [Lib.countFrom, index_cons_miss hx hm, hm, BEq.rfl, if_true]
      · have hb : ¬ ((i : Int) == -1) = true := by rw [beq_iff_eq]; omega
        have hb' : ¬ (((i + 1 : Nat) : Int) == -1) = true := by rw [beq_iff_eq]; omega
        simp only [Lib.countFrom, index_cons_hit hx hi, hi, if_neg hb, if_neg hb', Int.toNat_natCast, List.length_singleton, List.drop_succ_cons]
def spl (c : UInt8) : List UInt8 → List (List UInt8)
  | [] => [[]]
  | x :: l => if x = c then [] :: spl c l else match spl c l with
    | [] => [[x]]
    | y :: ys => (x :: y) :: ys
theorem splitK_one (c : UInt8) : ∀ (l : List UInt8) (k : Nat), l.count c ≤ k → Lib.splitK [c] 0 k l = spl c l
  | [], k, _ => by
    cases k
    · rfl
    · simp [Lib.splitK, spl, show Lib.index [] [c] = -1 from rfl]
  | x :: l, k, h => by
    by_cases hx : x = c
    · subst hx
      cases k with
      | zero => simp at h
      | succ k =>
        have hb : ¬ (((0 : Nat) : Int) == -1) = true := by decide
        have ih := splitK_one x l k (by simp at h; omega)
        rw [Lib.splitK, index_cons_self, if_neg hb, spl, if_pos rfl, ← ih]
        simp
    · have ih := splitK_one c l k (by rw [List.count_cons_of_ne (by simpa using hx)] at h; exact h)
      rw [spl, if_neg hx, ← ih]
      cases k with
      | zero => rfl
      | succ k =>
        rcases index_two c l with hm | ⟨i, hi⟩
        · simp only [Lib.splitK, index_cons_miss hx hm, hm, BEq.rfl, if_true]
        · have hb : ¬ ((i : Int) == -1) = true := by rw [beq_iff_eq]; omega
          have hb' : ¬ (((i + 1 : Nat) : Int) == -1) = true := by rw [beq_iff_eq]; omega
          simp only [Lib.splitK, index_cons_hit hx hi, hi, if_neg hb, if_neg hb', Int.toNat_natCast, List.length_singleton, List.drop_succ_cons, Nat.add_zero, List.take_succ_cons]
theorem splitB_one (s : ByteArray) : Lib.splitB ⟨#[32]⟩ 0 (Lib.countB s ⟨#[32]⟩) s = (spl 32 s.data.toList).map fun l => (⟨l.toArray⟩ : ByteArray) := by
  have h := Lib.splitB_data ⟨#[32]⟩ 0 (Lib.countB s ⟨#[32]⟩) s
  rw [show (⟨#[32]⟩ : ByteArray).data.toList = [32] from rfl, splitK_one 32 _ _ (by show _ ≤ Lib.count _ _; unfold Lib.count; rw [count_one 32 _ _ (by omega)]; exact Nat.le_refl _)] at h
  rw [← h, List.map_map]
  symm
  have hall : ∀ L : List ByteArray, L.map ((fun l => (⟨l.toArray⟩ : ByteArray)) ∘ fun x => x.data.toList) = L := by
    intro L
    induction L with
    | nil => rfl
    | cons x t ih =>
      rw [List.map_cons, ih]
      exact congrArg (· :: t) (ba_ext rfl)
  exact hall _
def strings_Split.f (s sep : ByteArray) : Option (List ByteArray) := if sep.data.toList = [32] ∧ s.size < 4294967281 then some ((spl 32 s.data.toList).map fun l => (⟨l.toArray⟩ : ByteArray)) else none
theorem strings_Split.calls (a0 a1 : ByteArray) (r : List ByteArray) (w : World) (hG : GlobM w) (h : strings_Split.f a0 a1 = some r) :
    Calls Tryd.prog 57 #[.string a0, .string a1] w fun e w' => ∃ v0_ : Value, e = .returned (v0_) ∧ Kd.R Kd.string 9 w' w.heap.size (fun _ => True) v0_ r ∧ Below w.heap.size w w' := by
  unfold strings_Split.f at h
  split at h
  · rename_i hc
    obtain ⟨h1, h2⟩ := hc
    obtain rfl := Option.some.inj h
    obtain rfl : a1 = ⟨#[32]⟩ := ba_ext h1
    obtain ⟨m, hm⟩ := hG.m
    refine (Tryd.strings_Split a0 ⟨#[32]⟩ m w h2 hm (by decide)).mono fun e w' ⟨h3, h4⟩ => ⟨_, h3, ?_, ?_⟩
    · have hl := congrArg List.length (splitB_one a0)
      rw [splitB_one] at h4
      have hlen := Lib.splitB_all ⟨#[32]⟩ (by decide) 0 _ a0 rfl
      rw [hlen] at hl
      have hcount := Lib.countB_le ⟨#[32]⟩ (by decide) _ a0 (Nat.le_refl _)
      rw [h4, hl]
      refine Kd.R_of_own ⟨?_, .inr ⟨w.heap.size, _, _, rfl, Nat.le_refl _, blk_new w _, Nat.le_refl _, ?_, ?_, ?_⟩⟩ (fun _ _ => trivial)
      · simp [encs]
      · unfold maxLen; simp only [List.length_map] at hl ⊢; omega
      · simp
      · simp [encs, List.take_of_length_le]
    · rw [h4]; exact below_alloc (Below.refl _ _) _
  · cases h
end Go.Proofs.YtfnhjoemmiepiaaDoor.Ext
namespace Go.Proofs.YtfnhjoemmiepiaaDoor.Num
open Go Go.Lib
set_option linter.unusedVariables false
set_option linter.unusedSimpArgs false
def isDig (b : UInt8) : Bool := decide (48 ≤ b.toNat) && decide (b.toNat ≤ 57)
def vstep (a : Nat) (b : UInt8) : Nat := a * 10 + (b.toNat - 48)
def vfrom (acc : Nat) (l : List UInt8) : Nat := l.foldl vstep acc
def isNum (l : List UInt8) : Bool := l != [] && (l.all isDig && (l.head? != some 48 || l.length == 1))
theorem vfrom_nil (acc : Nat) : vfrom acc [] = acc := by unfold vfrom; rw [List.foldl_nil]
theorem vfrom_cons (acc : Nat) (b : UInt8) (l : List UInt8) : vfrom acc (b :: l) = vfrom (acc * 10 + (b.toNat - 48)) l := by unfold vfrom; rw [List.foldl_cons, vstep]
theorem vfrom_snoc (l : List UInt8) (acc : Nat) (b : UInt8) : vfrom acc (l ++ [b]) = vfrom acc l * 10 + (b.toNat - 48) := by unfold vfrom; rw [List.foldl_append, List.foldl_cons, List.foldl_nil, vstep]
theorem vfrom_le (l : List UInt8) : ∀ acc, acc ≤ vfrom acc l := by
  induction l with
  | nil => intro acc; exact Nat.le_refl _
  | cons x l ih => intro acc; have := ih (acc * 10 + (x.toNat - 48)); simp only [vfrom_cons, vfrom_nil]; omega
theorem vfrom_pos (l : List UInt8) : ∀ acc, 1 ≤ acc → acc * 10 ^ l.length ≤ vfrom acc l := by
  induction l with
  | nil => intro acc h; simp [vfrom_cons, vfrom_nil]
  | cons x l ih =>
    intro acc h
    have := ih (acc * 10 + (x.toNat - 48)) (by omega)
    simp only [vfrom_cons, vfrom_nil, List.length_cons, Nat.pow_succ]
    refine Nat.le_trans ?_ this
    have h2 : acc * (10 ^ l.length * 10) = (acc * 10) * 10 ^ l.length := by rw [Nat.mul_assoc, Nat.mul_comm 10]
    rw [h2]
    exact Nat.mul_le_mul_right _ (by omega)
theorem ofNat_toNat {d : Nat} (h : d < 10) : (UInt8.ofNat (48 + d)).toNat = 48 + d := by
  rw [UInt8.toNat_ofNat']; omega
theorem decDigits_ne (n : Nat) : decDigits n ≠ [] := by
  rw [decDigits]
  split <;> simp
theorem val_decDigits (n : Nat) : vfrom 0 (decDigits n) = n := by
  induction n using Nat.strongRecOn with
  | _ n ih =>
    rw [decDigits]
    split
    · rename_i h
      simp only [vfrom_cons, vfrom_nil, ofNat_toNat h]; omega
    · rename_i h
      rw [vfrom_snoc, ih (n / 10) (by omega), ofNat_toNat (by omega)]
      omega
theorem decDigits_digits (n : Nat) : (decDigits n).all isDig = true := by
  induction n using Nat.strongRecOn with
  | _ n ih =>
    rw [decDigits]
    split
    · rename_i h
      simp only [List.all_cons, List.all_nil, isDig, ofNat_toNat h]
      simp; omega
    · rename_i h
      rw [List.all_append, ih (n / 10) (by omega)]
      simp only [List.all_cons, List.all_nil, isDig, ofNat_toNat (show n % 10 < 10 by omega)]
      simp; omega
theorem decDigits_head (n : Nat) (h : 10 ≤ n) : (decDigits n).head? ≠ some 48 := by
  induction n using Nat.strongRecOn with
  | _ n ih =>
    rw [decDigits, dif_neg (by omega)]
    have e : (decDigits (n / 10) ++ [UInt8.ofNat (48 + n % 10)]).head? = (decDigits (n / 10)).head? := by
      cases hq : decDigits (n / 10) with
      | nil => exact absurd hq (decDigits_ne _)
      | cons x t => rfl
    rw [e]
    by_cases h2 : 10 ≤ n / 10
    · exact ih _ (by omega) h2
    · rw [decDigits, dif_pos (by omega)]
      simp only [List.head?_cons, ne_eq, Option.some.injEq]
      intro he
      have := congrArg UInt8.toNat he
      rw [ofNat_toNat (by omega)] at this
      have h3 : (48 : UInt8).toNat = 48 := rfl
      omega
theorem decDigits_isNum (n : Nat) : isNum (decDigits n) = true := by
  unfold isNum
  rw [decDigits_digits]
  simp only [Bool.and_eq_true, bne_iff_ne, ne_eq, Bool.or_eq_true, beq_iff_eq, Bool.true_and, decDigits_ne, not_false_eq_true, true_and]
  by_cases h : 10 ≤ n
  · exact .inl (decDigits_head n h)
  · right; rw [decDigits, dif_pos (by omega)]; rfl
theorem decDigits_val (l : List UInt8) (h : isNum l = true) : decDigits (vfrom 0 l) = l := by
  have key : ∀ (k : Nat) (l : List UInt8), l.length = k → isNum l = true → decDigits (vfrom 0 l) = l := by
    intro k
    induction k with
    | zero =>
      intro l hl h
      have : l = [] := List.length_eq_zero_iff.1 hl
      subst this; simp [isNum] at h
    | succ k ih =>
      intro l hl h
      have hne : l ≠ [] := by rintro rfl; simp at hl
      obtain ⟨m, d, rfl⟩ : ∃ m d, l = m ++ [d] := ⟨l.dropLast, l.getLast hne, (List.dropLast_concat_getLast hne).symm⟩
      unfold isNum at h
      simp only [Bool.and_eq_true, bne_iff_ne, ne_eq, Bool.or_eq_true, beq_iff_eq, List.all_append, List.all_cons, List.all_nil, Bool.and_true] at h
      obtain ⟨_, ⟨hm, hd⟩, hh⟩ := h
      have hd' : 48 ≤ d.toNat ∧ d.toNat ≤ 57 := by simpa [isDig] using hd
      have hdd : UInt8.ofNat (48 + (d.toNat - 48)) = d := by
        rw [show 48 + (d.toNat - 48) = d.toNat by omega]; exact UInt8.ofNat_toNat
      rw [vfrom_snoc]
      cases m with
      | nil =>
        simp only [vfrom_cons, vfrom_nil, Nat.zero_mul, Nat.zero_add, List.nil_append]
        rw [decDigits, dif_pos (by omega), hdd]
      | cons x t =>
        have hx : x ≠ 48 := by
          rcases hh with hh | hh
          · intro hx; subst hx; exact hh rfl
          · simp at hh
        have hxd : 48 ≤ x.toNat ∧ x.toNat ≤ 57 := by
          have := List.all_eq_true.1 hm x (by simp)
          simpa [isDig] using this
        have hx1 : 1 ≤ x.toNat - 48 := by
          have : x.toNat ≠ 48 := fun e => hx (UInt8.toNat_inj.1 e)
          omega
        have hv : 1 ≤ vfrom 0 (x :: t) := by
          have := vfrom_le t (0 * 10 + (x.toNat - 48))
          simp only [vfrom_cons, vfrom_nil]; omega
        have hq : isNum (x :: t) = true := by
          unfold isNum
          simp only [Bool.and_eq_true, bne_iff_ne, ne_eq, Bool.or_eq_true, beq_iff_eq]
          exact ⟨by simp, hm, .inl (by simpa using hx)⟩
        have e := ih (x :: t) (by simp at hl ⊢; omega) hq
        rw [decDigits, dif_neg (by omega)]
        rw [show (vfrom 0 (x :: t) * 10 + (d.toNat - 48)) / 10 = vfrom 0 (x :: t) by omega, e, show (vfrom 0 (x :: t) * 10 + (d.toNat - 48)) % 10 = d.toNat - 48 by omega, hdd]
  exact key _ l rfl h
theorem parseUintM_ok (M : Nat) (hM : M < 18446744073709551616) (l : List UInt8) : ∀ acc, l.all isDig = true → vfrom acc l ≤ M → parseUintM M acc l = .ok (vfrom acc l) := by
  induction l with
  | nil => intro acc _ _; rfl
  | cons x l ih =>
    intro acc hd hv
    simp only [List.all_cons, Bool.and_eq_true] at hd
    have hx : 48 ≤ x.toNat ∧ x.toNat ≤ 57 := by simpa [isDig] using hd.1
    have h1 := vfrom_le l (acc * 10 + (x.toNat - 48))
    simp only [vfrom_cons, vfrom_nil] at hv ⊢
    rw [parseUintM, if_pos hx, if_neg (by omega), if_neg (by omega)]
    exact ih _ hd.2 hv
theorem parseIntB_decDigits (n : Nat) (h : n < 9223372036854775808) : parseIntB 64 (decDigits n) = .ok (n : Int) := by
  have hd := decDigits_digits n
  have hu : parseUintM (2 ^ 64 - 1) 0 (decDigits n) = .ok n := by
    rw [parseUintM_ok _ (by omega) _ _ hd (by rw [val_decDigits]; omega), val_decDigits]
  cases hl : decDigits n with
  | nil => exact absurd hl (decDigits_ne n)
  | cons c r =>
    rw [hl] at hd hu
    have hc : 48 ≤ c.toNat ∧ c.toNat ≤ 57 := by
      simp only [List.all_cons, Bool.and_eq_true] at hd
      simpa [isDig] using hd.1
    unfold parseIntB
    have h1 : ¬ (c.toNat = 43 ∨ c.toNat = 45) := by omega
    have h2 : ¬ c.toNat = 45 := by omega
    have e1 : (if c.toNat = 43 ∨ c.toNat = 45 then r else c :: r) = c :: r := if_neg h1
    have e2 : parseUintB 64 (c :: r) = .ok n := by unfold parseUintB; rw [if_neg (by simp)]; exact hu
    simp only [e1, e2]
    have e3 : (2 : Nat) ^ (64 - 1) = 9223372036854775808 := by decide
    rw [if_neg (by rw [e3]; omega), if_neg (by omega), if_neg h2]
def numB (most : Nat) (l : List UInt8) : Option Nat := if isNum l = true ∧ vfrom 0 l ≤ most then some (vfrom 0 l) else none
theorem numB_iff (most : Nat) (l : List UInt8) (n : Nat) : numB most l = some n ↔ l = decDigits n ∧ n ≤ most := by
  unfold numB
  constructor
  · intro h
    split at h
    · rename_i hc
      obtain rfl := Option.some.inj h
      exact ⟨(decDigits_val l hc.1).symm, hc.2⟩
    · cases h
  · rintro ⟨rfl, h⟩
    rw [if_pos ⟨decDigits_isNum n, by rw [val_decDigits]; exact h⟩, val_decDigits]
theorem isNum_len (l : List UInt8) (h : isNum l = true) (hl : 10 < l.length) : 10000000000 ≤ vfrom 0 l := by
  unfold isNum at h
  simp only [Bool.and_eq_true, bne_iff_ne, ne_eq, Bool.or_eq_true, beq_iff_eq] at h
  obtain ⟨h1, h2, h3⟩ := h
  cases l with
  | nil => exact absurd rfl h1
  | cons x t =>
    have hx : x ≠ 48 := by
      rcases h3 with hh | hh
      · intro hx; subst hx; exact hh rfl
      · omega
    simp only [List.all_cons, Bool.and_eq_true] at h2
    have hxd : 48 ≤ x.toNat ∧ x.toNat ≤ 57 := by simpa [isDig] using h2.1
    have : x.toNat ≠ 48 := fun e => hx (UInt8.toNat_inj.1 e)
    have hp := vfrom_pos t (0 * 10 + (x.toNat - 48)) (by omega)
    simp only [vfrom_cons, vfrom_nil]
    refine Nat.le_trans ?_ hp
    have h10 : 10 ^ 10 ≤ 10 ^ t.length := Nat.pow_le_pow_right (by omega) (by simp at hl; omega)
    calc 10000000000 ≤ 10 ^ t.length := h10
      _ = 1 * 10 ^ t.length := (Nat.one_mul _).symm
      _ ≤ _ := Nat.mul_le_mul_right _ (by omega)
end Go.Proofs.YtfnhjoemmiepiaaDoor.Num
