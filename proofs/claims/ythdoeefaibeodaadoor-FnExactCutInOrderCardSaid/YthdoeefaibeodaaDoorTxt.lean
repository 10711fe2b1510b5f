/- Texts: what is valid, said three ways. No program in sight. -/
import Derived.Lib.IndexMore
import Derived.Lib.TrimByte
namespace Go.Proofs.YthdoeefaibeodaaDoor.Txt
open Go
set_option linter.unusedVariables false
set_option linter.unusedSimpArgs false
/-- A letter or a blank. -/
def okB (b : UInt8) : Bool := (decide (65 ≤ b.toNat) && decide (b.toNat ≤ 90)) || b == 32
/-- No two blanks side by side; no blank at an end is asked apart. -/
def noTwo : List UInt8 → Bool
  | a :: b :: l => !(a == 32 && b == 32) && noTwo (b :: l)
  | _ => true
/-- A valid text. -/
def txt (l : List UInt8) : Bool := decide (l.length ≤ 60) && (l.all okB && noTwo l) && (l.head? != some 32 && l.getLast? != some 32)

theorem contains_two : ∀ l : List UInt8, Lib.contains l [32, 32] = !(noTwo l)
  | [] => rfl
  | [a] => by simp [Lib.contains, Lib.index, noTwo, List.isPrefixOf]
  | a :: b :: l => by
    have ih := contains_two (b :: l)
    unfold Lib.contains at ih ⊢
    rw [Lib.index]
    by_cases h : (a == 32 && b == 32) = true
    · have h' := h
      simp only [Bool.and_eq_true, beq_iff_eq] at h'
      obtain ⟨rfl, rfl⟩ := h'
      simp [noTwo, List.isPrefixOf]
    · have hp : ([32, 32] : List UInt8).isPrefixOf (a :: b :: l) = false := by
        rw [Bool.eq_false_iff]
        intro hp
        apply h
        simp [List.isPrefixOf] at hp
        simp [← hp.1, ← hp.2]
      have h0 : (a == 32 && b == 32) = false := by simpa using h
      rw [hp]
      have hge := Lib.index_ge (b :: l) [32, 32]
      simp only [Bool.false_eq_true, if_false, noTwo, h0, Bool.not_false, Bool.true_and]
      rw [← ih]
      by_cases hm : Lib.index (b :: l) [32, 32] = -1
      · rw [hm]; rfl
      · have : ¬ (Lib.index (b :: l) [32, 32] == -1) = true := by rw [beq_iff_eq]; exact hm
        rw [if_neg this]
        have h1 : 0 ≤ Lib.index (b :: l) [32, 32] := by omega
        simp [h1]; omega

theorem trim_eq_iff (l : List UInt8) : Lib.trimB l 32 = l ↔ l.head? ≠ some 32 ∧ l.getLast? ≠ some 32 := by
  have hle : ∀ (p : UInt8 → Bool) (m : List UInt8), (m.dropWhile p).length ≤ m.length := fun p m => (List.dropWhile_sublist p).length_le
  constructor
  · intro h
    have hl : (Lib.trimB l 32).length = l.length := by rw [h]
    unfold Lib.trimB Lib.trimLeftB Lib.trimRightB at hl
    have h1 := hle (· == 32) (l.reverse.dropWhile (· == 32)).reverse
    have h2 := hle (· == 32) l.reverse
    simp only [List.length_reverse] at h1 h2
    constructor
    · intro hh
      cases l with
      | nil => cases hh
      | cons x t =>
        obtain rfl : x = 32 := by simpa using hh
        have e1 : (32 :: t).reverse.dropWhile (· == 32) = (32 :: t).reverse := by
          apply (List.dropWhile_sublist _).eq_of_length
          simp only [List.length_reverse]; omega
        rw [e1, List.reverse_reverse] at hl
        have := hle (· == 32) t
        simp only [List.dropWhile_cons, BEq.rfl, if_true, List.length_cons] at hl
        omega
    · intro hh
      have hr : l.reverse.head? = some 32 := by rw [List.head?_reverse]; exact hh
      cases hq : l.reverse with
      | nil => rw [hq] at hr; cases hr
      | cons x t =>
        rw [hq] at hr
        obtain rfl : x = 32 := by simpa using hr
        have hlen : l.length = t.length + 1 := by have := congrArg List.length hq; simpa using this
        have := hle (· == 32) t
        have e1 : (l.reverse.dropWhile (· == 32)).length ≤ t.length := by rw [hq]; simpa using this
        omega
  · rintro ⟨h1, h2⟩
    unfold Lib.trimB Lib.trimLeftB Lib.trimRightB
    have e1 : l.reverse.dropWhile (· == 32) = l.reverse := by
      cases hq : l.reverse with
      | nil => rfl
      | cons x t =>
        have : l.getLast? = some x := by rw [← List.head?_reverse, hq]; rfl
        have hx : x ≠ 32 := by rintro rfl; exact h2 this
        simp [List.dropWhile_cons, hx]
    rw [e1, List.reverse_reverse]
    cases l with
    | nil => rfl
    | cons x t =>
      have hx : x ≠ 32 := by rintro rfl; exact h1 rfl
      simp [List.dropWhile_cons, hx]
end Go.Proofs.YthdoeefaibeodaaDoor.Txt
