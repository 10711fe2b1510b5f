/- Plain laws of numerals: the reference's Decimal, and numbers with blanks between them. -/
import Derived.Test.YthdoeefaibeodaaDoorPureBase
import Derived.Test.YthdoeefaibeodaaDoorNum
import Derived.Test.YthdoeefaibeodaaDoorDec
import Derived.Test.YthdoeefaibeodaaDoorStr
import Derived.Lib.ItoaLen
import Derived.Lib.Join
import Derived.Test.YthdoeefaibeodaaDoorQT1
import Derived.Test.YthdoeefaibeodaaDoorQT3
import Derived.Test.YthdoeefaibeodaaDoorQT3
namespace Go.Proofs.YthdoeefaibeodaaDoor.Pure
open Go.RowKit Go.Proofs.YthdoeefaibeodaaDoor.Ext Go.Proofs.YthdoeefaibeodaaDoor.Num Go.Proofs.YthdoeefaibeodaaDoorW.PrintWords Go.Proofs.YthdoeefaibeodaaDoorW.PrintLast Go.Proofs.YthdoeefaibeodaaDoorW.PrintMore
set_option linter.unusedVariables false
set_option linter.unusedSimpArgs false
theorem digit_bytes (n : Nat) : strOfNums [(wrap64 (48 + Int.tmod (n : Int) 10)) % 256] = (⟨#[UInt8.ofNat (48 + n % 10)]⟩ : ByteArray) := by
  have e : (wrap64 (48 + Int.tmod (n : Int) 10)) % 256 = ((48 + n % 10 : Nat) : Int) := by
    rw [Int.tmod_eq_emod_of_nonneg (by omega)]
    unfold wrap64; omega
  rw [e]
  unfold strOfNums
  rw [List.map_cons, List.map_nil, Int.toNat_natCast]
theorem decimal_eq : ∀ (k n : Nat), n < 10 ^ k → n ≤ 4611686018427387904 → QT.spec_Decimal.f (k + 1) (n : Int) = some (⟨(Lib.decDigits n).toArray⟩ : ByteArray)
  | 0, n, h, _ => by
    have hn : n = 0 := by simp at h; exact h
    subst hn
    rw [QT.spec_Decimal.f, if_pos (by omega), digit_bytes, Lib.decDigits, dif_pos (by omega)]
  | k + 1, n, h, h2 => by
    rw [QT.spec_Decimal.f, digit_bytes]
    by_cases h10 : n < 10
    · rw [if_pos (by omega), Lib.decDigits, dif_pos h10, show n % 10 = n by omega]
    · have ht : wrap64 (Int.tdiv (n : Int) 10) = ((n / 10 : Nat) : Int) := by
        rw [Int.tdiv_eq_ediv_of_nonneg (by omega)]
        unfold wrap64; omega
      rw [if_neg (by omega), ht, decimal_eq k (n / 10) (by rw [Nat.pow_succ] at h; omega) (by omega), Option.bind_some, Option.bind_some, digit_bytes]
      have hl : (Lib.decDigits (n / 10)).length ≤ 21 := by
        have := Lib.itoa_length_le ((n / 10 : Nat) : Int) (by omega) (by omega)
        rwa [Lib.itoa_nonneg] at this
      have e1 : (⟨(Lib.decDigits (n / 10)).toArray⟩ : ByteArray).size = (Lib.decDigits (n / 10)).length := by simp [ByteArray.size]
      have e2 : (⟨#[UInt8.ofNat (48 + n % 10)]⟩ : ByteArray).size = 1 := rfl
      rw [if_pos (by rw [e1, e2]; omega)]
      congr 1
      apply ba_ext
      rw [Lib.decDigits.eq_1 n, dif_neg h10]
      simp
/-- Numbers as a text, with blanks between them. -/
def numsText (l : List Int) : List UInt8 := Lib.join (l.map Lib.itoa) [32]
def txtOf (l : List Int) : ByteArray := ⟨(numsText l).toArray⟩
theorem join_snoc (xs : List (List UInt8)) (y sep : List UInt8) (h : xs ≠ []) : Lib.join (xs ++ [y]) sep = Lib.join xs sep ++ (sep ++ y) := by
  cases xs with
  | nil => exact absurd rfl h
  | cons x r =>
    rw [List.cons_append, Lib.join_cons, Lib.join_cons]
    simp [Lib.joinTail]
theorem numsText_len (l : List Int) (hb : ∀ x ∈ l, -9223372036854775808 ≤ x ∧ x ≤ 9223372036854775807) : (numsText l).length ≤ 22 * l.length := by
  unfold numsText
  cases l with
  | nil => simp [Lib.join_nil]
  | cons x r =>
    rw [List.map_cons, Lib.join_cons, List.length_append]
    have h0 := Lib.itoa_length_le x (hb x (by simp)).1 (hb x (by simp)).2
    have h1 : ∀ r : List Int, (∀ x ∈ r, -9223372036854775808 ≤ x ∧ x ≤ 9223372036854775807) → (Lib.joinTail [32] (r.map Lib.itoa)).length ≤ 22 * r.length := by
      intro r
      induction r with
      | nil => intro _; simp [Lib.joinTail]
      | cons y t ih =>
        intro hr
        have h2 := Lib.itoa_length_le y (hr y (by simp)).1 (hr y (by simp)).2
        have h3 := ih (fun z hz => hr z (by simp [hz]))
        have e : Lib.joinTail [32] ((y :: t).map Lib.itoa) = 32 :: (Lib.itoa y ++ Lib.joinTail [32] (t.map Lib.itoa)) := by simp [Lib.joinTail]
        rw [e, List.length_cons, List.length_append, List.length_cons]
        omega
    have h4 := h1 r (fun z hz => hb z (by simp [hz]))
    simp only [List.length_cons]
    omega
def decs (l : List Int) : List ByteArray := l.map fun n => (⟨(Lib.itoa n).toArray⟩ : ByteArray)
theorem join_f (l : List Int) (hl : l.length ≤ 1000) (hb : ∀ x ∈ l, -9223372036854775808 ≤ x ∧ x ≤ 9223372036854775807) : strings_Join.f (decs l) (⟨#[32]⟩ : ByteArray) = some (txtOf l) := by
  have e : (decs l).map (·.data.toList) = l.map Lib.itoa := by
    unfold decs
    rw [List.map_map]
    rfl
  have hn := numsText_len l hb
  unfold numsText at hn
  have hs : (⟨#[32]⟩ : ByteArray).data.toList = [32] := rfl
  unfold strings_Join.f
  rw [e, hs, if_pos ⟨by omega, by unfold decs; rw [List.length_map]; omega⟩]
  rfl
theorem decs_take (l : List Int) (n : Nat) (h : n < l.length) : decs (l.take (n + 1)) = decs (l.take n) ++ [⟨(Lib.itoa (rd l n)).toArray⟩] := by
  unfold decs
  rw [List.take_succ_eq_append_getElem h, List.map_append, rd_get l n h]
  rfl
theorem joined8_l0 (l : List Int) (hl : l.length ≤ 1000) (hb : ∀ x ∈ l, -32768 ≤ x ∧ x ≤ 32767) : ∀ (d k n : Nat), n + d = l.length → d < k → QT.impl_joined_int8.l0 k (decs (l.take n)) l (l.length : Int) n = some (txtOf l)
  | 0, k, n, hd, hk => by
    obtain ⟨k, rfl⟩ := some_k hk
    simp only [QT.impl_joined_int8.l0]
    rw [if_neg (by omega), List.take_of_length_le (by omega), join_f l hl (fun x hx => by have := hb x hx; omega)]
    rfl
  | d + 1, k, n, hd, hk => by
    obtain ⟨k, rfl⟩ := some_k hk
    have hx := hb (rd l n) (rd_mem l n (by omega))
    simp only [QT.impl_joined_int8.l0]
    rw [if_pos (by omega), if_pos (by omega), if_pos (by omega), w64 (by omega) (by omega), wrap_succ n (by omega)]
    unfold impl_decimal.f
    rw [if_pos (show _ ∧ _ from ⟨by omega, by omega⟩), Option.bind_some, if_pos (by unfold decs; simp; omega), ← decs_take l n (by omega)]
    exact joined8_l0 l hl hb d k (n + 1) (by omega) (by omega)
theorem joined8_eq (l : List Int) (hl : l.length ≤ 1000) (hb : ∀ x ∈ l, -32768 ≤ x ∧ x ≤ 32767) {k : Nat} (hk : l.length < k) : QT.impl_joined_int8.f k l = some (txtOf l) := by
  unfold QT.impl_joined_int8.f
  exact joined8_l0 l hl hb l.length k 0 (by omega) hk
theorem joined16_l0 (l : List Int) (hl : l.length ≤ 1000) (hb : ∀ x ∈ l, -32768 ≤ x ∧ x ≤ 32767) : ∀ (d k n : Nat), n + d = l.length → d < k → QT.impl_joined_int16.l0 k (decs (l.take n)) l (l.length : Int) n = some (txtOf l)
  | 0, k, n, hd, hk => by
    obtain ⟨k, rfl⟩ := some_k hk
    simp only [QT.impl_joined_int16.l0]
    rw [if_neg (by omega), List.take_of_length_le (by omega), join_f l hl (fun x hx => by have := hb x hx; omega)]
    rfl
  | d + 1, k, n, hd, hk => by
    obtain ⟨k, rfl⟩ := some_k hk
    have hx := hb (rd l n) (rd_mem l n (by omega))
    simp only [QT.impl_joined_int16.l0]
    rw [if_pos (by omega), if_pos (by omega), if_pos (by omega), w64 (by omega) (by omega), wrap_succ n (by omega)]
    unfold impl_decimal.f
    rw [if_pos (show _ ∧ _ from ⟨by omega, by omega⟩), Option.bind_some, if_pos (by unfold decs; simp; omega), ← decs_take l n (by omega)]
    exact joined16_l0 l hl hb d k (n + 1) (by omega) (by omega)
theorem joined16_eq (l : List Int) (hl : l.length ≤ 1000) (hb : ∀ x ∈ l, -32768 ≤ x ∧ x ≤ 32767) {k : Nat} (hk : l.length < k) : QT.impl_joined_int16.f k l = some (txtOf l) := by
  unfold QT.impl_joined_int16.f
  exact joined16_l0 l hl hb l.length k 0 (by omega) hk
/-- One number more. -/
theorem numsText_take (l : List Int) (n : Nat) (h : n < l.length) : numsText (l.take (n + 1)) = numsText (l.take n) ++ ((if n = 0 then [] else [32]) ++ Lib.itoa (rd l n)) := by
  unfold numsText
  rw [List.take_succ_eq_append_getElem h, List.map_append, ← rd_get l n h]
  by_cases h0 : n = 0
  · subst h0
    simp [Lib.join_nil, Lib.join_one]
  · rw [if_neg h0]
    exact join_snoc _ _ _ (by intro hh; have := congrArg List.length hh; rw [List.length_map, List.length_take, List.length_nil] at this; omega)
end Go.Proofs.YthdoeefaibeodaaDoor.Pure
