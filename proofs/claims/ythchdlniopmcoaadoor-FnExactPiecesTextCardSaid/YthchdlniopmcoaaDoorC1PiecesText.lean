/- Contracts and plain laws of functions of the given program; no conditions beside those in the theorems. -/
import Derived.Test.YthchdlniopmcoaaDoorC0PiecesText
import Derived.Test.YthchdlniopmcoaaDoorShelf
import Derived.Lib.Split
import Derived.Lib.Replace
import Derived.Lib.SplitLaws
import Derived.Lib.Builder
import Derived.Lib.AppendStr
import Derived.Lib.UnsafeStr
import Derived.Laws.Externs
import Derived.Lib.AppendIntMem
import Derived.Lib.ItoaLen
import Derived.Deep.MidRow
import Derived.ProofKit
import Derived.OpenShut
import Derived.Below
import Derived.SizedLaws
import Derived.ShutString
import Derived.Deep.Slices
namespace Go.Proofs.YthchdlniopmcoaaDoor.Ext
open Go.RowKit Go.Proofs.YthchdlniopmcoaaDoorW.PrintWords Go.Proofs.YthchdlniopmcoaaDoorW.PrintLast Go.Proofs.YthchdlniopmcoaaDoorW.PrintMore
set_option linter.unusedVariables false
set_option linter.unusedSimpArgs false
theorem ba_ext {a b : ByteArray} (h : a.data.toList = b.data.toList) : a = b := by
  apply ByteArray.ext
  exact Array.toList_inj.1 h
def strings_Trim.f (s c : ByteArray) : Option ByteArray := if c.data.toList = [32] ∧ s.size ≤ 9223372036854775807 then some ⟨(Lib.trimB s.data.toList 32).toArray⟩ else none
theorem strings_Trim.calls (a0 a1 : ByteArray) (r : ByteArray) (w : World) (h : strings_Trim.f a0 a1 = some r) :
    Calls Tryd.prog 79 #[.string a0, .string a1] w fun e w' => e = .returned (.string r) ∧ Below w.heap.size w w' := by
  unfold strings_Trim.f at h
  split at h
  · rename_i hc
    obtain ⟨h1, h2⟩ := hc
    obtain rfl := Option.some.inj h
    obtain rfl : a1 = ⟨#[32]⟩ := ba_ext h1
    exact (Tryd.strings_Trim_one a0 32 (by decide) w h2).mono fun e w' ⟨h3, h4⟩ => ⟨h3, by
      rcases h4 with rfl | rfl
      · exact Below.refl _ _
      · exact (Below.refl _ _).drew⟩
  · cases h
def strings_Contains.f (s c : ByteArray) : Option Bool := if s.size < 4294967281 then some (Lib.contains s.data.toList c.data.toList) else none
theorem strings_Contains.calls (a0 a1 : ByteArray) (r : Bool) (w : World) (hG : GlobM w) (h : strings_Contains.f a0 a1 = some r) :
    Calls Tryd.prog 94 #[.string a0, .string a1] w fun e w' => e = .returned (.bool r) ∧ Below w.heap.size w w' := by
  unfold strings_Contains.f at h
  split at h
  · rename_i hc
    obtain rfl := Option.some.inj h
    obtain ⟨m, hm⟩ := hG.m
    exact (Tryd.strings_Contains a0 a1 m w hc hm).mono fun e w' ⟨h3, h4⟩ => ⟨h3, by subst h4; exact Below.refl _ _⟩
  · cases h
end Go.Proofs.YthchdlniopmcoaaDoor.Ext
namespace Go.Proofs.YthchdlniopmcoaaDoor.Q
open Go.Proofs.YthchdlniopmcoaaDoor.Ext
open Go.RowKit Go.Proofs.YthchdlniopmcoaaDoorW.PrintWords Go.Proofs.YthchdlniopmcoaaDoorW.PrintLast Go.Proofs.YthchdlniopmcoaaDoorW.PrintMore
attribute [local go_sem] max2_int min2_int max_two min_two max_three min_three max_four min_four
set_option linter.unusedVariables false
set_option linter.unusedSimpArgs false
def spec_l01Text.l0 : Nat → ByteArray → Int → Option (Bool)
  | 0, _, _ => none
  | k + 1, x0, x3 => if x3 < (x0.size : Int) then (if 0 ≤ x3 then (if (bt x0 x3) = 32 then (if x3 = 0 then (some false) else (if x3 = (wrap64 ((x0.size : Int) - 1)) then (some false) else (if 0 ≤ (wrap64 (x3 - 1)) then (if (wrap64 (x3 - 1)) < (x0.size : Int) then (if (bt x0 (wrap64 (x3 - 1))) = 32 then (some false) else (spec_l01Text.l0 k x0 (wrap64 (x3 + 1)))) else (none)) else (none)))) else ((spec_l01Letter.f (bt x0 x3)).bind fun t120 => (if t120 = true then (spec_l01Text.l0 k x0 (wrap64 (x3 + 1))) else (some false)))) else (none)) else (some (decide ((x0.size : Int) ≤ 60)))
def spec_l01Text.f (k : Nat) (a0 : ByteArray) : Option (Bool) := spec_l01Text.l0 k a0 0
theorem spec_l01Text.mono_l : ∀ k, (∀ y0 y1, LeO (spec_l01Text.l0 k y0 y1) (spec_l01Text.l0 (k + 1) y0 y1))
  | 0 => fun _ _ r h => by simp [spec_l01Text.l0] at h
  | k + 1 => by
    have ih0 := spec_l01Text.mono_l k
    · intro y0 y1
      unfold spec_l01Text.l0
      repeat' first
      | (with_reducible exact ih0 _ _)
      | (with_reducible exact LeO.refl _)
      | (with_reducible exact LeO.none _)
      | (with_reducible refine LeO.ite ?_ ?_)
      | (with_reducible refine LeO.bind ?_ (fun _ => ?_))
      | exact ih0 _ _
      | exact LeO.none _
      | refine LeO.ite ?_ ?_
      | refine LeO.bind ?_ (fun _ => ?_)
theorem spec_l01Text.mono : ∀ a0 k, LeO (spec_l01Text.f k a0) (spec_l01Text.f (k + 1) a0) := by
  intro a0 k
  have ih0 := spec_l01Text.mono_l k
  unfold spec_l01Text.f
  repeat' first
      | (with_reducible exact ih0 _ _)
      | (with_reducible exact LeO.refl _)
      | (with_reducible exact LeO.none _)
      | (with_reducible refine LeO.ite ?_ ?_)
      | (with_reducible refine LeO.bind ?_ (fun _ => ?_))
      | exact ih0 _ _
      | exact LeO.none _
      | refine LeO.ite ?_ ?_
      | refine LeO.bind ?_ (fun _ => ?_)
set_option maxHeartbeats 8000000 in
set_option maxRecDepth 100000 in
theorem spec_l01Text.calls (k : Nat) (a0 : ByteArray) (r : Bool) (w : World) (h : spec_l01Text.f k a0 = some r) :
    Calls Tryd.prog 50 #[.string a0] w fun e w' => e = .returned (.bool r) ∧ Drawn0 w w' := by
  have H : (spec_l01Text.l0 k a0 0) = some r := h
  clear h
  have H' := Aside0.mk H
  clear H
  go_enter Tryd.func50, Tryd.ntmps50
  go_wp2
  go_loopg [3] k (fun kq v3 w' => ∃ (x3_1 : Int), v3 = .int .i64 x3_1 ∧ Aside0 (spec_l01Text.l0 kq a0 x3_1 = some r) ∧ Aside0 (kq ≤ k) ∧ Drawn0 w w')
  case atStart => exact ⟨(0), (by first | rfl | (simp; done) | (simp [*]; done)), H', ⟨Nat.le_refl _⟩, by repeat (first | exact Drawn0.refl _ | apply Drawn0.step)⟩
  case round =>
    clear H'
    obtain ⟨x3_1, rfl, HA, HK1, ⟨m1, rfl⟩⟩ := hrel
    cases gk with
    | zero => exact absurd HA.out (by simp [spec_l01Text.l0])
    | succ k1 =>
      have H := HA.out
      clear HA
      simp only [spec_l01Text.l0] at H
      by_cases c2 : x3_1 < (a0.size : Int)
      · rw [if_pos c2] at H
        have c2b0 : decide (x3_1 < (a0.size : Int)) = true := decide_eq_true c2
        clear c2
        by_cases c3 : 0 ≤ x3_1
        · rw [if_pos c3] at H
          have c3b0 : decide (0 ≤ x3_1) = true := decide_eq_true c3
          clear c3
          by_cases c5 : (bt a0 x3_1) = 32
          · rw [if_pos c5] at H
            have c5b0 : ((bt a0 x3_1) == 32) = true := beq_iff_eq.mpr c5
            have c5b1 : ((bt a0 x3_1) != 32) = false := bne_eq_false_iff_eq.mpr c5
            clear c5
            by_cases c6 : x3_1 = 0
            · rw [if_pos c6] at H
              have c6b0 : (x3_1 == 0) = true := beq_iff_eq.mpr c6
              have c6b1 : (x3_1 != 0) = false := bne_eq_false_iff_eq.mpr c6
              clear c6
              obtain rfl := Option.some.inj H
              have p4 : 0 ≤ (x3_1 : Int) := of_decide_eq_true (by first | (with_reducible assumption) | assumption)
              have q4 : x3_1 < (a0.size : Int) := of_decide_eq_true (by first | (with_reducible assumption) | assumption)
              have hx4 := bt_at a0 x3_1
              replace p4 := eq_true p4
              replace q4 := eq_true q4
              go_wp2
              go_ret
              exact ⟨by first | rfl | (simp; done) | (simp [*]; done), by repeat (first | exact Drawn0.refl _ | apply Drawn0.step)⟩
            · rw [if_neg c6] at H
              have c6b0 : (x3_1 == 0) = false := beq_eq_false_iff_ne.mpr c6
              have c6b1 : (x3_1 != 0) = true := bne_iff_ne.mpr c6
              by_cases c7 : x3_1 = (wrap64 ((a0.size : Int) - 1))
              · rw [if_pos c7] at H
                have c7b0 : (x3_1 == (wrap64 ((a0.size : Int) - 1))) = true := beq_iff_eq.mpr c7
                have c7b1 : (x3_1 != (wrap64 ((a0.size : Int) - 1))) = false := bne_eq_false_iff_eq.mpr c7
                clear c7
                obtain rfl := Option.some.inj H
                have p4 : 0 ≤ (x3_1 : Int) := of_decide_eq_true (by first | (with_reducible assumption) | assumption)
                have q4 : x3_1 < (a0.size : Int) := of_decide_eq_true (by first | (with_reducible assumption) | assumption)
                have hx4 := bt_at a0 x3_1
                replace p4 := eq_true p4
                replace q4 := eq_true q4
                go_wp2
                go_ret
                exact ⟨by first | rfl | (simp; done) | (simp [*]; done), by repeat (first | exact Drawn0.refl _ | apply Drawn0.step)⟩
              · rw [if_neg c7] at H
                have c7b0 : (x3_1 == (wrap64 ((a0.size : Int) - 1))) = false := beq_eq_false_iff_ne.mpr c7
                have c7b1 : (x3_1 != (wrap64 ((a0.size : Int) - 1))) = true := bne_iff_ne.mpr c7
                obtain ⟨ji8, hji8⟩ : ∃ j_ : Int, (wrap64 (x3_1 - 1)) = j_ := ⟨_, rfl⟩
                replace H : (if 0 ≤ (ji8) then (if (ji8) < (a0.size : Int) then (if (bt a0 (ji8)) = 32 then (some false) else (spec_l01Text.l0 k1 a0 (wrap64 (x3_1 + 1)))) else (none)) else (none)) = some r := by first | (rw [hji8] at H; exact H) | (simp only [hji8] at H ⊢; exact H)
                have hji8w : (IntKind.i64.wrap (x3_1 - 1)) = ji8 := (i64_w _).trans hji8
                by_cases c9 : 0 ≤ (ji8)
                · rw [if_pos c9] at H
                  have c9b0 : decide (0 ≤ (ji8)) = true := decide_eq_true c9
                  clear c9
                  by_cases c10 : (ji8) < (a0.size : Int)
                  · rw [if_pos c10] at H
                    have c10b0 : decide ((ji8) < (a0.size : Int)) = true := decide_eq_true c10
                    clear c10
                    by_cases c12 : (bt a0 (ji8)) = 32
                    · rw [if_pos c12] at H
                      have c12b0 : ((bt a0 (ji8)) == 32) = true := beq_iff_eq.mpr c12
                      have c12b1 : ((bt a0 (ji8)) != 32) = false := bne_eq_false_iff_eq.mpr c12
                      clear c12
                      obtain rfl := Option.some.inj H
                      have p4 : 0 ≤ (x3_1 : Int) := of_decide_eq_true (by first | (with_reducible assumption) | assumption)
                      have q4 : x3_1 < (a0.size : Int) := of_decide_eq_true (by first | (with_reducible assumption) | assumption)
                      have hx4 := bt_at a0 x3_1
                      replace p4 := eq_true p4
                      replace q4 := eq_true q4
                      have p11 : 0 ≤ ((ji8) : Int) := of_decide_eq_true (by first | (with_reducible assumption) | assumption)
                      have q11 : (ji8) < (a0.size : Int) := of_decide_eq_true (by first | (with_reducible assumption) | assumption)
                      have hx11 := bt_at a0 (ji8)
                      replace p11 := eq_true p11
                      replace q11 := eq_true q11
                      go_wp2
                      go_ret
                      exact ⟨by first | rfl | (simp; done) | (simp only [← hji8] <;> (first | rfl | simp)) | (simp [*]; done), by repeat (first | exact Drawn0.refl _ | apply Drawn0.step)⟩
                    · rw [if_neg c12] at H
                      have c12b0 : ((bt a0 (ji8)) == 32) = false := beq_eq_false_iff_ne.mpr c12
                      have c12b1 : ((bt a0 (ji8)) != 32) = true := bne_iff_ne.mpr c12
                      have H' := Aside0.mk H
                      clear H
                      have p4 : 0 ≤ (x3_1 : Int) := of_decide_eq_true (by first | (with_reducible assumption) | assumption)
                      have q4 : x3_1 < (a0.size : Int) := of_decide_eq_true (by first | (with_reducible assumption) | assumption)
                      have hx4 := bt_at a0 x3_1
                      replace p4 := eq_true p4
                      replace q4 := eq_true q4
                      have p11 : 0 ≤ ((ji8) : Int) := of_decide_eq_true (by first | (with_reducible assumption) | assumption)
                      have q11 : (ji8) < (a0.size : Int) := of_decide_eq_true (by first | (with_reducible assumption) | assumption)
                      have hx11 := bt_at a0 (ji8)
                      replace p11 := eq_true p11
                      replace q11 := eq_true q11
                      go_wp2
                      go_roundg k1
                      case measure => have := HK1.out; omega
                      case rel => exact ⟨(wrap64 (x3_1 + 1)), (by first | rfl | (simp; done) | (simp [*]; done)), H', ⟨by have := HK1.out; omega⟩, by repeat (first | exact Drawn0.refl _ | apply Drawn0.step)⟩
                  · rw [if_neg c10] at H
                    exact absurd H (by simp)
                · rw [if_neg c9] at H
                  exact absurd H (by simp)
          · rw [if_neg c5] at H
            have c5b0 : ((bt a0 x3_1) == 32) = false := beq_eq_false_iff_ne.mpr c5
            have c5b1 : ((bt a0 x3_1) != 32) = true := bne_iff_ne.mpr c5
            replace H := Option.bind_eq_some_iff.mp H
            obtain ⟨t120, A140, H⟩ := H
            replace H : (if t120 = true then (spec_l01Text.l0 k1 a0 (wrap64 (x3_1 + 1))) else (some false)) = some r := H
            have A14 := Aside0.mk A140
            clear A140
            by_cases c15 : t120 = true
            · subst c15
              have H1 : (spec_l01Text.l0 k1 a0 (wrap64 (x3_1 + 1))) = some r := by rw [if_pos rfl] at H; exact H
              clear H
              have H := H1
              clear H1
              have H' := Aside0.mk H
              clear H
              have p4 : 0 ≤ (x3_1 : Int) := of_decide_eq_true (by first | (with_reducible assumption) | assumption)
              have q4 : x3_1 < (a0.size : Int) := of_decide_eq_true (by first | (with_reducible assumption) | assumption)
              have hx4 := bt_at a0 x3_1
              replace p4 := eq_true p4
              replace q4 := eq_true q4
              have p13 : 0 ≤ (x3_1 : Int) := of_decide_eq_true (by first | (with_reducible assumption) | assumption)
              have q13 : x3_1 < (a0.size : Int) := of_decide_eq_true (by first | (with_reducible assumption) | assumption)
              have hx13 := bt_at a0 x3_1
              replace p13 := eq_true p13
              replace q13 := eq_true q13
              go_wp2_with (first | ((with_reducible refine gate_callee (f := 74) rfl ?_); refine goesL_ (some 33) rfl rfl Tryd.func74 (by kernel_rfl) rfl #[.int .u8 (bt a0 x3_1)] rfl (by (try simp only [List.map_toArray, List.map_cons, List.map_nil]); first | done | rfl | (simp only [List.length_drop, List.length_take]; rfl)) ?_; (with_reducible refine (spec_l01Letter.calls (bt a0 x3_1) true _ A14.out).mono ?_); rintro e w' ⟨rfl, ⟨nd, rfl⟩⟩; refine ⟨_, rfl, ?_⟩))
              go_roundg k1
              case measure => have := HK1.out; omega
              case rel => exact ⟨(wrap64 (x3_1 + 1)), (by first | rfl | (simp; done) | (simp [*]; done)), H', ⟨by have := HK1.out; omega⟩, by repeat (first | exact Drawn0.refl _ | apply Drawn0.step)⟩
            · replace c15 := Bool.eq_false_iff.mpr c15
              subst c15
              have H1 : (some false) = some r := by rw [if_neg (show ¬ (false = true) by decide)] at H; exact H
              clear H
              have H := H1
              clear H1
              obtain rfl := Option.some.inj H
              have p4 : 0 ≤ (x3_1 : Int) := of_decide_eq_true (by first | (with_reducible assumption) | assumption)
              have q4 : x3_1 < (a0.size : Int) := of_decide_eq_true (by first | (with_reducible assumption) | assumption)
              have hx4 := bt_at a0 x3_1
              replace p4 := eq_true p4
              replace q4 := eq_true q4
              have p13 : 0 ≤ (x3_1 : Int) := of_decide_eq_true (by first | (with_reducible assumption) | assumption)
              have q13 : x3_1 < (a0.size : Int) := of_decide_eq_true (by first | (with_reducible assumption) | assumption)
              have hx13 := bt_at a0 x3_1
              replace p13 := eq_true p13
              replace q13 := eq_true q13
              go_wp2_with (first | ((with_reducible refine gate_callee (f := 74) rfl ?_); refine goesL_ (some 33) rfl rfl Tryd.func74 (by kernel_rfl) rfl #[.int .u8 (bt a0 x3_1)] rfl (by (try simp only [List.map_toArray, List.map_cons, List.map_nil]); first | done | rfl | (simp only [List.length_drop, List.length_take]; rfl)) ?_; (with_reducible refine (spec_l01Letter.calls (bt a0 x3_1) false _ A14.out).mono ?_); rintro e w' ⟨rfl, ⟨nd, rfl⟩⟩; refine ⟨_, rfl, ?_⟩))
              go_ret
              exact ⟨by first | rfl | (simp; done) | (simp [*]; done), by repeat (first | exact Drawn0.refl _ | apply Drawn0.step)⟩
        · rw [if_neg c3] at H
          exact absurd H (by simp)
      · rw [if_neg c2] at H
        have c2b0 : decide (x3_1 < (a0.size : Int)) = false := decide_eq_false c2
        clear c2
        obtain rfl := Option.some.inj H
        go_wp2
        go_ret
        exact ⟨by first | rfl | (simp; done) | (simp [*]; done), by repeat (first | exact Drawn0.refl _ | apply Drawn0.step)⟩
def spec_l04Pieces.l0 : Nat → List (S53) → Int → Option (Bool)
  | 0, _, _ => none
  | k + 1, x0, x3 => if x3 < (x0.length : Int) then (if 0 ≤ x3 then (if (((rd_T53 x0 x3).f0).size : Int) > 20 then (some false) else ((spec_l01Text.f k ((rd_T53 x0 x3).f0)).bind fun t123 => (if t123 = true then (spec_l04Pieces.l0 k x0 (wrap64 (x3 + 1))) else (some false)))) else (none)) else (some (decide ((x0.length : Int) ≤ 8)))
def spec_l04Pieces.f (k : Nat) (l0 : List (S53)) : Option (Bool) := spec_l04Pieces.l0 k l0 0
theorem spec_l04Pieces.mono_l : ∀ k, (∀ y0 y1, LeO (spec_l04Pieces.l0 k y0 y1) (spec_l04Pieces.l0 (k + 1) y0 y1))
  | 0 => fun _ _ r h => by simp [spec_l04Pieces.l0] at h
  | k + 1 => by
    have ih0 := spec_l04Pieces.mono_l k
    · intro y0 y1
      unfold spec_l04Pieces.l0
      repeat' first
      | (with_reducible exact ih0 _ _)
      | (with_reducible exact spec_l01Text.mono _ _)
      | (with_reducible exact LeO.refl _)
      | (with_reducible exact LeO.none _)
      | (with_reducible refine LeO.ite ?_ ?_)
      | (with_reducible refine LeO.bind ?_ (fun _ => ?_))
      | exact ih0 _ _
      | exact spec_l01Text.mono _ _
      | exact LeO.none _
      | refine LeO.ite ?_ ?_
      | refine LeO.bind ?_ (fun _ => ?_)
theorem spec_l04Pieces.mono : ∀ a0 k, LeO (spec_l04Pieces.f k a0) (spec_l04Pieces.f (k + 1) a0) := by
  intro a0 k
  have ih0 := spec_l04Pieces.mono_l k
  unfold spec_l04Pieces.f
  repeat' first
      | (with_reducible exact ih0 _ _)
      | (with_reducible exact spec_l01Text.mono _ _)
      | (with_reducible exact LeO.refl _)
      | (with_reducible exact LeO.none _)
      | (with_reducible refine LeO.ite ?_ ?_)
      | (with_reducible refine LeO.bind ?_ (fun _ => ?_))
      | exact ih0 _ _
      | exact spec_l01Text.mono _ _
      | exact LeO.none _
      | refine LeO.ite ?_ ?_
      | refine LeO.bind ?_ (fun _ => ?_)
set_option maxHeartbeats 8000000 in
set_option maxRecDepth 100000 in
theorem spec_l04Pieces.calls (k : Nat) (A0 : Option Addr) (c0 : Nat) (l0 : List (S53)) (r : Bool) (w : World) (hr0 : Kd.C k53 w A0 l0.length l0) (hc0 : l0.length ≤ c0) (h : spec_l04Pieces.f k l0 = some r) :
    Calls Tryd.prog 25 #[.slice A0 l0.length c0] w fun e w' => e = .returned (.bool r) ∧ Drawn0 w w' := by
  have HR0 := Aside0.mk hr0
  have HC0 := Aside0.mk hc0
  clear hr0 hc0
  have H : (spec_l04Pieces.l0 k l0 0) = some r := h
  clear h
  have H' := Aside0.mk H
  clear H
  go_enter Tryd.func25, Tryd.ntmps25
  go_wp2
  go_loopg [3] k (fun kq v3 w' => ∃ (x3_1 : Int), v3 = .int .i64 x3_1 ∧ Aside0 (spec_l04Pieces.l0 kq l0 x3_1 = some r) ∧ Aside0 (kq ≤ k) ∧ Drawn0 w w')
  case atStart => exact ⟨(0), (by first | rfl | (simp; done) | (simp [*]; done)), H', ⟨Nat.le_refl _⟩, by repeat (first | exact Drawn0.refl _ | apply Drawn0.step)⟩
  case round =>
    clear H'
    obtain ⟨x3_1, rfl, HA, HK1, ⟨m1, rfl⟩⟩ := hrel
    cases gk with
    | zero => exact absurd HA.out (by simp [spec_l04Pieces.l0])
    | succ k1 =>
      have H := HA.out
      clear HA
      simp only [spec_l04Pieces.l0] at H
      by_cases c2 : x3_1 < (l0.length : Int)
      · rw [if_pos c2] at H
        have c2b0 : decide (x3_1 < (l0.length : Int)) = true := decide_eq_true c2
        clear c2
        by_cases c3 : 0 ≤ x3_1
        · rw [if_pos c3] at H
          have c3b0 : decide (0 ≤ x3_1) = true := decide_eq_true c3
          clear c3
          by_cases c4 : (((rd_T53 l0 x3_1).f0).size : Int) > 20
          · rw [if_pos c4] at H
            have c4b0 : decide (20 < (((rd_T53 l0 x3_1).f0).size : Int)) = true := decide_eq_true c4
            have c4b1 : decide (20 < ((rd_T53 l0 x3_1).f0).size) = true := decide_eq_true (by omega)
            clear c4
            obtain rfl := Option.some.inj H
            have p121 : 0 ≤ (x3_1 : Int) := of_decide_eq_true (by first | (with_reducible assumption) | assumption)
            have q121 : x3_1 < (l0.length : Int) := of_decide_eq_true (by first | (with_reducible assumption) | assumption)
            obtain ⟨ad121, e121, hx121_0, hx121_1, hx121_2⟩ := at_T53 HR0.out x3_1 p121 q121
            cases e121
            replace p121 := eq_true p121
            replace q121 := eq_true q121
            go_wp2
            go_ret
            exact ⟨by first | rfl | (simp; done) | (simp [*]; done), by repeat (first | exact Drawn0.refl _ | apply Drawn0.step)⟩
          · rw [if_neg c4] at H
            have c4b0 : decide (20 < (((rd_T53 l0 x3_1).f0).size : Int)) = false := decide_eq_false c4
            have c4b1 : decide (20 < ((rd_T53 l0 x3_1).f0).size) = false := decide_eq_false (by omega)
            clear c4
            replace H := Option.bind_eq_some_iff.mp H
            obtain ⟨t123, A50, H⟩ := H
            replace H : (if t123 = true then (spec_l04Pieces.l0 k1 l0 (wrap64 (x3_1 + 1))) else (some false)) = some r := H
            have A5 := Aside0.mk A50
            clear A50
            by_cases c6 : t123 = true
            · subst c6
              have H1 : (spec_l04Pieces.l0 k1 l0 (wrap64 (x3_1 + 1))) = some r := by rw [if_pos rfl] at H; exact H
              clear H
              have H := H1
              clear H1
              have H' := Aside0.mk H
              clear H
              have p121 : 0 ≤ (x3_1 : Int) := of_decide_eq_true (by first | (with_reducible assumption) | assumption)
              have q121 : x3_1 < (l0.length : Int) := of_decide_eq_true (by first | (with_reducible assumption) | assumption)
              obtain ⟨ad121, e121, hx121_0, hx121_1, hx121_2⟩ := at_T53 HR0.out x3_1 p121 q121
              cases e121
              replace p121 := eq_true p121
              replace q121 := eq_true q121
              have p122 : 0 ≤ (x3_1 : Int) := of_decide_eq_true (by first | (with_reducible assumption) | assumption)
              have q122 : x3_1 < (l0.length : Int) := of_decide_eq_true (by first | (with_reducible assumption) | assumption)
              obtain ⟨ad122, e122, hx122_0, hx122_1, hx122_2⟩ := at_T53 HR0.out x3_1 p122 q122
              obtain rfl : ad121 = ad122 := (by injection e122)
              replace p122 := eq_true p122
              replace q122 := eq_true q122
              go_wp2_with (first | (go_at_call 50; (with_reducible refine (spec_l01Text.calls k1 ((rd_T53 l0 x3_1).f0) true _ A5.out).mono ?_); rintro e w' ⟨rfl, ⟨nd, rfl⟩⟩))
              go_roundg k1
              case measure => have := HK1.out; omega
              case rel => exact ⟨(wrap64 (x3_1 + 1)), (by first | rfl | (simp; done) | (simp [*]; done)), H', ⟨by have := HK1.out; omega⟩, by repeat (first | exact Drawn0.refl _ | apply Drawn0.step)⟩
            · replace c6 := Bool.eq_false_iff.mpr c6
              subst c6
              have H1 : (some false) = some r := by rw [if_neg (show ¬ (false = true) by decide)] at H; exact H
              clear H
              have H := H1
              clear H1
              obtain rfl := Option.some.inj H
              have p121 : 0 ≤ (x3_1 : Int) := of_decide_eq_true (by first | (with_reducible assumption) | assumption)
              have q121 : x3_1 < (l0.length : Int) := of_decide_eq_true (by first | (with_reducible assumption) | assumption)
              obtain ⟨ad121, e121, hx121_0, hx121_1, hx121_2⟩ := at_T53 HR0.out x3_1 p121 q121
              cases e121
              replace p121 := eq_true p121
              replace q121 := eq_true q121
              have p122 : 0 ≤ (x3_1 : Int) := of_decide_eq_true (by first | (with_reducible assumption) | assumption)
              have q122 : x3_1 < (l0.length : Int) := of_decide_eq_true (by first | (with_reducible assumption) | assumption)
              obtain ⟨ad122, e122, hx122_0, hx122_1, hx122_2⟩ := at_T53 HR0.out x3_1 p122 q122
              obtain rfl : ad121 = ad122 := (by injection e122)
              replace p122 := eq_true p122
              replace q122 := eq_true q122
              go_wp2_with (first | (go_at_call 50; (with_reducible refine (spec_l01Text.calls k1 ((rd_T53 l0 x3_1).f0) false _ A5.out).mono ?_); rintro e w' ⟨rfl, ⟨nd, rfl⟩⟩))
              go_ret
              exact ⟨by first | rfl | (simp; done) | (simp [*]; done), by repeat (first | exact Drawn0.refl _ | apply Drawn0.step)⟩
        · rw [if_neg c3] at H
          exact absurd H (by simp)
      · rw [if_neg c2] at H
        have c2b0 : decide (x3_1 < (l0.length : Int)) = false := decide_eq_false c2
        clear c2
        obtain rfl := Option.some.inj H
        go_wp2
        go_ret
        exact ⟨by first | rfl | (simp; done) | (simp [*]; done), by repeat (first | exact Drawn0.refl _ | apply Drawn0.step)⟩
end Go.Proofs.YthchdlniopmcoaaDoor.Q
namespace Go.Proofs.YthchdlniopmcoaaDoor.Ext
end Go.Proofs.YthchdlniopmcoaaDoor.Ext
namespace Go.Proofs.YthchdlniopmcoaaDoor.Q
open Go.Proofs.YthchdlniopmcoaaDoor.Ext
open Go.RowKit Go.Proofs.YthchdlniopmcoaaDoorW.PrintWords Go.Proofs.YthchdlniopmcoaaDoorW.PrintLast Go.Proofs.YthchdlniopmcoaaDoorW.PrintMore
attribute [local go_sem] max2_int min2_int max_two min_two max_three min_three max_four min_four
set_option linter.unusedVariables false
set_option linter.unusedSimpArgs false
def impl_isLetter.f (a0 : Int) : Option (Bool) := if a0 ≥ 65 then (some (decide (a0 ≤ 90))) else (some false)
set_option maxHeartbeats 8000000 in
set_option maxRecDepth 100000 in
theorem impl_isLetter.calls (a0 : Int) (r : Bool) (w : World) (h : impl_isLetter.f a0 = some r) :
    Calls Tryd.prog 93 #[.int .u8 a0] w fun e w' => e = .returned (.bool r) ∧ Drawn0 w w' := by
  have H : (if a0 ≥ 65 then (some (decide (a0 ≤ 90))) else (some false)) = some r := h
  clear h
  by_cases c2 : a0 ≥ 65
  · rw [if_pos c2] at H
    have c2b0 : decide (65 ≤ a0) = true := decide_eq_true c2
    clear c2
    obtain rfl := Option.some.inj H
    go_enter Tryd.func93, Tryd.ntmps93
    go_wp2
    go_ret
    exact ⟨by first | rfl | (simp; done) | (simp [*]; done), by repeat (first | exact Drawn0.refl _ | apply Drawn0.step)⟩
  · rw [if_neg c2] at H
    have c2b0 : decide (65 ≤ a0) = false := decide_eq_false c2
    clear c2
    obtain rfl := Option.some.inj H
    go_enter Tryd.func93, Tryd.ntmps93
    go_wp2
    go_ret
    exact ⟨by first | rfl | (simp; done) | (simp [*]; done), by repeat (first | exact Drawn0.refl _ | apply Drawn0.step)⟩
end Go.Proofs.YthchdlniopmcoaaDoor.Q
namespace Go.Proofs.YthchdlniopmcoaaDoor.Ext
end Go.Proofs.YthchdlniopmcoaaDoor.Ext
namespace Go.Proofs.YthchdlniopmcoaaDoor.Q
open Go.Proofs.YthchdlniopmcoaaDoor.Ext
open Go.RowKit Go.Proofs.YthchdlniopmcoaaDoorW.PrintWords Go.Proofs.YthchdlniopmcoaaDoorW.PrintLast Go.Proofs.YthchdlniopmcoaaDoorW.PrintMore
attribute [local go_sem] max2_int min2_int max_two min_two max_three min_three max_four min_four
set_option linter.unusedVariables false
set_option linter.unusedSimpArgs false
def impl_isSpaced.l0 : Nat → ByteArray → Int → Int → Option (Bool)
  | 0, _, _, _ => none
  | k + 1, x0, x5, x6 => if x6 < x5 then (if 0 ≤ x6 then (if x6 < (x0.size : Int) then ((impl_isLetter.f (bt x0 x6)).bind fun t257 => (if t257 = true then (impl_isSpaced.l0 k x0 x5 (wrap64 (x6 + 1))) else (if (bt x0 x6) = 32 then (impl_isSpaced.l0 k x0 x5 (wrap64 (x6 + 1))) else (some false)))) else (none)) else (none)) else ((strings_Contains.f x0 (⟨#[32, 32]⟩ : ByteArray)).bind fun t258 => (some (!t258)))
def impl_isSpaced.f (k : Nat) (a0 : ByteArray) : Option (Bool) := impl_isSpaced.l0 k a0 (a0.size : Int) 0
theorem impl_isSpaced.mono_l : ∀ k, (∀ y0 y1 y2, LeO (impl_isSpaced.l0 k y0 y1 y2) (impl_isSpaced.l0 (k + 1) y0 y1 y2))
  | 0 => fun _ _ _ r h => by simp [impl_isSpaced.l0] at h
  | k + 1 => by
    have ih0 := impl_isSpaced.mono_l k
    · intro y0 y1 y2
      unfold impl_isSpaced.l0
      repeat' first
      | (with_reducible exact ih0 _ _ _)
      | (with_reducible exact LeO.refl _)
      | (with_reducible exact LeO.none _)
      | (with_reducible refine LeO.ite ?_ ?_)
      | (with_reducible refine LeO.bind ?_ (fun _ => ?_))
      | exact ih0 _ _ _
      | exact LeO.none _
      | refine LeO.ite ?_ ?_
      | refine LeO.bind ?_ (fun _ => ?_)
theorem impl_isSpaced.mono : ∀ a0 k, LeO (impl_isSpaced.f k a0) (impl_isSpaced.f (k + 1) a0) := by
  intro a0 k
  have ih0 := impl_isSpaced.mono_l k
  unfold impl_isSpaced.f
  repeat' first
      | (with_reducible exact ih0 _ _ _)
      | (with_reducible exact LeO.refl _)
      | (with_reducible exact LeO.none _)
      | (with_reducible refine LeO.ite ?_ ?_)
      | (with_reducible refine LeO.bind ?_ (fun _ => ?_))
      | exact ih0 _ _ _
      | exact LeO.none _
      | refine LeO.ite ?_ ?_
      | refine LeO.bind ?_ (fun _ => ?_)
set_option maxHeartbeats 8000000 in
set_option maxRecDepth 100000 in
theorem impl_isSpaced.calls (k : Nat) (a0 : ByteArray) (r : Bool) (w : World) (hG : GlobMT w) (h : impl_isSpaced.f k a0 = some r) :
    Calls Tryd.prog 78 #[.string a0] w fun e w' => e = .returned (.bool r) ∧ Below w.heap.size w w' := by
  have HG := Aside0.mk hG
  clear hG
  have HB := Aside0.mk (Below.refl w.heap.size w)
  have H : (impl_isSpaced.l0 k a0 (a0.size : Int) 0) = some r := h
  clear h
  have H' := Aside0.mk H
  clear H
  go_enter Tryd.func78, Tryd.ntmps78
  go_wp2
  go_loopg [6] k (fun kq v6 w' => ∃ (x6_1 : Int), v6 = .int .i64 x6_1 ∧ Aside0 (impl_isSpaced.l0 kq a0 (a0.size : Int) x6_1 = some r) ∧ Aside0 (kq ≤ k) ∧ Aside0 (Below w.heap.size w w'))
  case atStart => exact ⟨(0), (by first | rfl | (simp; done) | (simp [*]; done)), H', ⟨Nat.le_refl _⟩, ⟨by repeat (first | (with_reducible first | exact HB.out | apply below_alloc | apply pw_below_drewN | apply below_drew1) | exact HB.out)⟩⟩
  case round =>
    clear H'
    obtain ⟨x6_1, rfl, HA, HK1, HB⟩ := hrel
    cases gk with
    | zero => exact absurd HA.out (by simp [impl_isSpaced.l0])
    | succ k1 =>
      have H := HA.out
      clear HA
      simp only [impl_isSpaced.l0] at H
      by_cases c2 : x6_1 < (a0.size : Int)
      · rw [if_pos c2] at H
        have c2b0 : decide (x6_1 < (a0.size : Int)) = true := decide_eq_true c2
        clear c2
        by_cases c3 : 0 ≤ x6_1
        · rw [if_pos c3] at H
          have c3b0 : decide (0 ≤ x6_1) = true := decide_eq_true c3
          clear c3
          by_cases c4 : x6_1 < (a0.size : Int)
          · rw [if_pos c4] at H
            have c4b0 : decide (x6_1 < (a0.size : Int)) = true := decide_eq_true c4
            clear c4
            replace H := Option.bind_eq_some_iff.mp H
            obtain ⟨t257, A60, H⟩ := H
            replace H : (if t257 = true then (impl_isSpaced.l0 k1 a0 (a0.size : Int) (wrap64 (x6_1 + 1))) else (if (bt a0 x6_1) = 32 then (impl_isSpaced.l0 k1 a0 (a0.size : Int) (wrap64 (x6_1 + 1))) else (some false))) = some r := H
            have A6 := Aside0.mk A60
            clear A60
            by_cases c7 : t257 = true
            · subst c7
              have H1 : (impl_isSpaced.l0 k1 a0 (a0.size : Int) (wrap64 (x6_1 + 1))) = some r := by rw [if_pos rfl] at H; exact H
              clear H
              have H := H1
              clear H1
              have H' := Aside0.mk H
              clear H
              have p5 : 0 ≤ (x6_1 : Int) := of_decide_eq_true (by first | (with_reducible assumption) | assumption)
              have q5 : x6_1 < (a0.size : Int) := of_decide_eq_true (by first | (with_reducible assumption) | assumption)
              have hx5 := bt_at a0 x6_1
              replace p5 := eq_true p5
              replace q5 := eq_true q5
              go_wp2_with (first | ((with_reducible refine gate_callee (f := 93) rfl ?_); refine goesL_ (some 12) rfl rfl Tryd.func93 (by kernel_rfl) rfl #[.int .u8 (bt a0 x6_1)] rfl (by (try simp only [List.map_toArray, List.map_cons, List.map_nil]); first | done | rfl | (simp only [List.length_drop, List.length_take]; rfl)) ?_; (with_reducible refine (impl_isLetter.calls (bt a0 x6_1) true _ A6.out).mono ?_); rintro e w' ⟨rfl, ⟨nd, rfl⟩⟩; refine ⟨_, rfl, ?_⟩))
              go_roundg k1
              case measure => have := HK1.out; omega
              case rel => exact ⟨(wrap64 (x6_1 + 1)), (by first | rfl | (simp; done) | (simp [*]; done)), H', ⟨by have := HK1.out; omega⟩, ⟨by repeat (first | (with_reducible first | exact HB.out | apply below_alloc | apply pw_below_drewN | apply below_drew1) | exact HB.out)⟩⟩
            · replace c7 := Bool.eq_false_iff.mpr c7
              subst c7
              have H1 : (if (bt a0 x6_1) = 32 then (impl_isSpaced.l0 k1 a0 (a0.size : Int) (wrap64 (x6_1 + 1))) else (some false)) = some r := by rw [if_neg (show ¬ (false = true) by decide)] at H; exact H
              clear H
              have H := H1
              clear H1
              by_cases c9 : (bt a0 x6_1) = 32
              · rw [if_pos c9] at H
                have c9b0 : ((bt a0 x6_1) == 32) = true := beq_iff_eq.mpr c9
                have c9b1 : ((bt a0 x6_1) != 32) = false := bne_eq_false_iff_eq.mpr c9
                clear c9
                have H' := Aside0.mk H
                clear H
                have p5 : 0 ≤ (x6_1 : Int) := of_decide_eq_true (by first | (with_reducible assumption) | assumption)
                have q5 : x6_1 < (a0.size : Int) := of_decide_eq_true (by first | (with_reducible assumption) | assumption)
                have hx5 := bt_at a0 x6_1
                replace p5 := eq_true p5
                replace q5 := eq_true q5
                go_wp2_with (first | ((with_reducible refine gate_callee (f := 93) rfl ?_); refine goesL_ (some 12) rfl rfl Tryd.func93 (by kernel_rfl) rfl #[.int .u8 (bt a0 x6_1)] rfl (by (try simp only [List.map_toArray, List.map_cons, List.map_nil]); first | done | rfl | (simp only [List.length_drop, List.length_take]; rfl)) ?_; (with_reducible refine (impl_isLetter.calls (bt a0 x6_1) false _ A6.out).mono ?_); rintro e w' ⟨rfl, ⟨nd, rfl⟩⟩; refine ⟨_, rfl, ?_⟩; have p8 : 0 ≤ (x6_1 : Int) := of_decide_eq_true (by first | (with_reducible assumption) | assumption); have q8 : x6_1 < (a0.size : Int) := of_decide_eq_true (by first | (with_reducible assumption) | assumption); have hx8 := bt_at a0 x6_1; replace p8 := eq_true p8; replace q8 := eq_true q8))
                go_roundg k1
                case measure => have := HK1.out; omega
                case rel => exact ⟨(wrap64 (x6_1 + 1)), (by first | rfl | (simp; done) | (simp [*]; done)), H', ⟨by have := HK1.out; omega⟩, ⟨by repeat (first | (with_reducible first | exact HB.out | apply below_alloc | apply pw_below_drewN | apply below_drew1) | exact HB.out)⟩⟩
              · rw [if_neg c9] at H
                have c9b0 : ((bt a0 x6_1) == 32) = false := beq_eq_false_iff_ne.mpr c9
                have c9b1 : ((bt a0 x6_1) != 32) = true := bne_iff_ne.mpr c9
                obtain rfl := Option.some.inj H
                have p5 : 0 ≤ (x6_1 : Int) := of_decide_eq_true (by first | (with_reducible assumption) | assumption)
                have q5 : x6_1 < (a0.size : Int) := of_decide_eq_true (by first | (with_reducible assumption) | assumption)
                have hx5 := bt_at a0 x6_1
                replace p5 := eq_true p5
                replace q5 := eq_true q5
                go_wp2_with (first | ((with_reducible refine gate_callee (f := 93) rfl ?_); refine goesL_ (some 12) rfl rfl Tryd.func93 (by kernel_rfl) rfl #[.int .u8 (bt a0 x6_1)] rfl (by (try simp only [List.map_toArray, List.map_cons, List.map_nil]); first | done | rfl | (simp only [List.length_drop, List.length_take]; rfl)) ?_; (with_reducible refine (impl_isLetter.calls (bt a0 x6_1) false _ A6.out).mono ?_); rintro e w' ⟨rfl, ⟨nd, rfl⟩⟩; refine ⟨_, rfl, ?_⟩; have p8 : 0 ≤ (x6_1 : Int) := of_decide_eq_true (by first | (with_reducible assumption) | assumption); have q8 : x6_1 < (a0.size : Int) := of_decide_eq_true (by first | (with_reducible assumption) | assumption); have hx8 := bt_at a0 x6_1; replace p8 := eq_true p8; replace q8 := eq_true q8))
                go_ret
                exact ⟨by first | rfl | (simp [errW_none, errW_some] <;> rfl) | (simp [*, errW_none, errW_some] <;> rfl), by repeat (first | (with_reducible first | exact HB.out | apply below_alloc | apply pw_below_drewN | apply below_drew1) | exact HB.out)⟩
          · rw [if_neg c4] at H
            exact absurd H (by simp)
        · rw [if_neg c3] at H
          exact absurd H (by simp)
      · rw [if_neg c2] at H
        have c2b0 : decide (x6_1 < (a0.size : Int)) = false := decide_eq_false c2
        clear c2
        replace H := Option.bind_eq_some_iff.mp H
        obtain ⟨t258, A100, H⟩ := H
        replace H : (some (!t258)) = some r := H
        have A10 := Aside0.mk A100
        clear A100
        obtain rfl := Option.some.inj H
        go_wp2_with (first | ((with_reducible refine gate_callee (f := 94) rfl ?_); refine goesL_ (some 22) rfl rfl Tryd.func94 (by kernel_rfl) rfl #[.string a0, .string (⟨#[32, 32]⟩ : ByteArray)] rfl (by (try simp only [List.map_toArray, List.map_cons, List.map_nil]); first | done | rfl | (simp only [List.length_drop, List.length_take]; rfl)) ?_; (with_reducible refine (strings_Contains.calls a0 (⟨#[32, 32]⟩ : ByteArray) t258 _ ?sideG A10.out).mono ?_); (case sideG => first | exact HG.out.below (by repeat (first | (with_reducible first | exact HB.out | apply below_alloc | apply pw_below_drewN | apply below_drew1) | exact HB.out)) | exact (HG.out.below (by repeat (first | (with_reducible first | exact HB.out | apply below_alloc | apply pw_below_drewN | apply below_drew1) | exact HB.out))).toM); rintro e w11 ⟨rfl, hb⟩; refine ⟨_, rfl, ?_⟩; have n0_ := Aside0.mk (below_step (by repeat (first | (with_reducible first | exact HB.out | apply below_alloc | apply pw_below_drewN | apply below_drew1) | exact HB.out)) hb); clear HB; have HB := n0_; clear n0_; (try clear hb); (try clear hb2); (try clear hk); (try clear hi)))
        go_ret
        exact ⟨by first | rfl | (simp [errW_none, errW_some] <;> rfl) | (simp [*, errW_none, errW_some] <;> rfl), by repeat (first | (with_reducible first | exact HB.out | apply below_alloc | apply pw_below_drewN | apply below_drew1) | exact HB.out)⟩
end Go.Proofs.YthchdlniopmcoaaDoor.Q
namespace Go.Proofs.YthchdlniopmcoaaDoor.Ext
end Go.Proofs.YthchdlniopmcoaaDoor.Ext
namespace Go.Proofs.YthchdlniopmcoaaDoor.Q
open Go.Proofs.YthchdlniopmcoaaDoor.Ext
open Go.RowKit Go.Proofs.YthchdlniopmcoaaDoorW.PrintWords Go.Proofs.YthchdlniopmcoaaDoorW.PrintLast Go.Proofs.YthchdlniopmcoaaDoorW.PrintMore
attribute [local go_sem] max2_int min2_int max_two min_two max_three min_three max_four min_four
set_option linter.unusedVariables false
set_option linter.unusedSimpArgs false
def impl_ValidText.f (k : Nat) (a0 : ByteArray) : Option (Bool) := if (a0.size : Int) ≤ 60 then ((impl_isSpaced.f k a0).bind fun t259 => (if t259 = true then ((strings_Trim.f a0 (⟨#[32]⟩ : ByteArray)).bind fun t260 => (some (t260.toList == a0.toList))) else (some false))) else (some false)
theorem impl_ValidText.mono : ∀ a0 k, LeO (impl_ValidText.f k a0) (impl_ValidText.f (k + 1) a0) := by
  intro a0 k
  unfold impl_ValidText.f
  repeat' first
      | (with_reducible exact impl_isSpaced.mono _ _)
      | (with_reducible exact LeO.refl _)
      | (with_reducible exact LeO.none _)
      | (with_reducible refine LeO.ite ?_ ?_)
      | (with_reducible refine LeO.bind ?_ (fun _ => ?_))
      | exact impl_isSpaced.mono _ _
      | exact LeO.none _
      | refine LeO.ite ?_ ?_
      | refine LeO.bind ?_ (fun _ => ?_)
set_option maxHeartbeats 8000000 in
set_option maxRecDepth 100000 in
theorem impl_ValidText.calls (k : Nat) (a0 : ByteArray) (r : Bool) (w : World) (hG : GlobMT w) (h : impl_ValidText.f k a0 = some r) :
    Calls Tryd.prog 56 #[.string a0] w fun e w' => e = .returned (.bool r) ∧ Below w.heap.size w w' := by
  have HG := Aside0.mk hG
  clear hG
  have HB := Aside0.mk (Below.refl w.heap.size w)
  have H : (if (a0.size : Int) ≤ 60 then ((impl_isSpaced.f k a0).bind fun t259 => (if t259 = true then ((strings_Trim.f a0 (⟨#[32]⟩ : ByteArray)).bind fun t260 => (some (t260.toList == a0.toList))) else (some false))) else (some false)) = some r := h
  clear h
  by_cases c2 : (a0.size : Int) ≤ 60
  · rw [if_pos c2] at H
    have c2b0 : decide ((a0.size : Int) ≤ 60) = true := decide_eq_true c2
    have c2b1 : decide (a0.size ≤ 60) = true := decide_eq_true (by omega)
    clear c2
    replace H := Option.bind_eq_some_iff.mp H
    obtain ⟨t259, A30, H⟩ := H
    replace H : (if t259 = true then ((strings_Trim.f a0 (⟨#[32]⟩ : ByteArray)).bind fun t260 => (some (t260.toList == a0.toList))) else (some false)) = some r := H
    have A3 := Aside0.mk A30
    clear A30
    by_cases c4 : t259 = true
    · subst c4
      have H1 : ((strings_Trim.f a0 (⟨#[32]⟩ : ByteArray)).bind fun t260 => (some (t260.toList == a0.toList))) = some r := by rw [if_pos rfl] at H; exact H
      clear H
      have H := H1
      clear H1
      replace H := Option.bind_eq_some_iff.mp H
      obtain ⟨t260, A50, H⟩ := H
      replace H : (some (t260.toList == a0.toList)) = some r := H
      have A5 := Aside0.mk A50
      clear A50
      obtain rfl := Option.some.inj H
      go_enter Tryd.func56, Tryd.ntmps56
      go_wp2_with (first | (go_at_call 78; (with_reducible refine (impl_isSpaced.calls k a0 true _ ?sideG A3.out).mono ?_); (case sideG => first | exact HG.out.below (by repeat (first | (with_reducible first | exact HB.out | apply below_alloc | apply pw_below_drewN | apply below_drew1) | exact HB.out)) | exact (HG.out.below (by repeat (first | (with_reducible first | exact HB.out | apply below_alloc | apply pw_below_drewN | apply below_drew1) | exact HB.out))).toM); rintro e w6 ⟨rfl, hb⟩; have n0_ := Aside0.mk (below_step (by repeat (first | (with_reducible first | exact HB.out | apply below_alloc | apply pw_below_drewN | apply below_drew1) | exact HB.out)) hb); clear HB; have HB := n0_; clear n0_; (try clear hb); (try clear hb2); (try clear hk); (try clear hi)) | (go_at_call 79; (with_reducible refine (strings_Trim.calls a0 (⟨#[32]⟩ : ByteArray) t260 _ A5.out).mono ?_); rintro e w7 ⟨rfl, hb⟩; have n0_ := Aside0.mk (below_step (by repeat (first | (with_reducible first | exact HB.out | apply below_alloc | apply pw_below_drewN | apply below_drew1) | exact HB.out)) hb); clear HB; have HB := n0_; clear n0_; (try clear hb); (try clear hb2); (try clear hk); (try clear hi)))
      go_ret
      exact ⟨by first | rfl | (simp [errW_none, errW_some] <;> rfl) | (simp [*, errW_none, errW_some] <;> rfl), by repeat (first | (with_reducible first | exact HB.out | apply below_alloc | apply pw_below_drewN | apply below_drew1) | exact HB.out)⟩
    · replace c4 := Bool.eq_false_iff.mpr c4
      subst c4
      have H1 : (some false) = some r := by rw [if_neg (show ¬ (false = true) by decide)] at H; exact H
      clear H
      have H := H1
      clear H1
      obtain rfl := Option.some.inj H
      go_enter Tryd.func56, Tryd.ntmps56
      go_wp2_with (first | (go_at_call 78; (with_reducible refine (impl_isSpaced.calls k a0 false _ ?sideG A3.out).mono ?_); (case sideG => first | exact HG.out.below (by repeat (first | (with_reducible first | exact HB.out | apply below_alloc | apply pw_below_drewN | apply below_drew1) | exact HB.out)) | exact (HG.out.below (by repeat (first | (with_reducible first | exact HB.out | apply below_alloc | apply pw_below_drewN | apply below_drew1) | exact HB.out))).toM); rintro e w8 ⟨rfl, hb⟩; have n0_ := Aside0.mk (below_step (by repeat (first | (with_reducible first | exact HB.out | apply below_alloc | apply pw_below_drewN | apply below_drew1) | exact HB.out)) hb); clear HB; have HB := n0_; clear n0_; (try clear hb); (try clear hb2); (try clear hk); (try clear hi)))
      go_ret
      exact ⟨by first | rfl | (simp [errW_none, errW_some] <;> rfl) | (simp [*, errW_none, errW_some] <;> rfl), by repeat (first | (with_reducible first | exact HB.out | apply below_alloc | apply pw_below_drewN | apply below_drew1) | exact HB.out)⟩
  · rw [if_neg c2] at H
    have c2b0 : decide ((a0.size : Int) ≤ 60) = false := decide_eq_false c2
    have c2b1 : decide (a0.size ≤ 60) = false := decide_eq_false (by omega)
    clear c2
    obtain rfl := Option.some.inj H
    go_enter Tryd.func56, Tryd.ntmps56
    go_wp2
    go_ret
    exact ⟨by first | rfl | (simp [errW_none, errW_some] <;> rfl) | (simp [*, errW_none, errW_some] <;> rfl), by repeat (first | (with_reducible first | exact HB.out | apply below_alloc | apply pw_below_drewN | apply below_drew1) | exact HB.out)⟩
def impl_ValidText.Pure : Prop := ∀ (a0 : ByteArray), a0.size ≤ 140737488351232 → ∃ k, impl_ValidText.f k a0 = some true
end Go.Proofs.YthchdlniopmcoaaDoor.Q
namespace Go.Proofs.YthchdlniopmcoaaDoor.Pure
open Go.RowKit Go.Proofs.YthchdlniopmcoaaDoor.Ext Go.Proofs.YthchdlniopmcoaaDoor.Q Go.Proofs.YthchdlniopmcoaaDoor.Txt Go.Proofs.YthchdlniopmcoaaDoorW.PrintWords Go.Proofs.YthchdlniopmcoaaDoorW.PrintLast Go.Proofs.YthchdlniopmcoaaDoorW.PrintMore
set_option linter.unusedVariables false
set_option linter.unusedSimpArgs false
theorem toList_loop (s : ByteArray) : ∀ (d i : Nat) (r : List UInt8), i + d = s.size → ByteArray.toList.loop s i r = r.reverse ++ s.data.toList.drop i
  | 0, i, r, h => by
    rw [ByteArray.toList.loop, if_neg (by omega), List.drop_eq_nil_of_le (by rw [data_length]; omega), List.append_nil]
  | d + 1, i, r, h => by
    rw [ByteArray.toList.loop, if_pos (by omega), toList_loop s d (i + 1) _ (by omega)]
    have hi : i < s.data.toList.length := by rw [data_length]; omega
    have hi' : i < s.data.size := by simpa using hi
    have e : s.get! i = s.data.toList[i] := by
      show s.data[i]! = _
      rw [getElem!_pos s.data i hi', Array.getElem_toList]
    rw [List.reverse_cons, List.append_assoc, List.drop_eq_getElem_cons hi, e]
    rfl
theorem toList_data (s : ByteArray) : s.toList = s.data.toList := by
  have := toList_loop s s.size 0 [] (by omega)
  simpa [ByteArray.toList] using this
theorem bt_get (s : ByteArray) (i : Nat) (h : i < s.data.toList.length) : bt s (i : Int) = ((s.data.toList.getD i 0).toNat : Int) := by
  have h' : i < s.size := by rw [← data_length]; exact h
  unfold bt
  rw [Int.toNat_natCast, dif_pos h']
  congr 2
  have := Lib.data_getElem? s i h'
  rw [List.getD_eq_getElem?_getD, this]
  rfl
theorem u8_eq (b : UInt8) (n : Nat) (hn : n < 256) : ((b.toNat : Int) = n) ↔ b = UInt8.ofNat n := by
  constructor
  · intro h
    apply UInt8.toNat_inj.1
    rw [UInt8.toNat_ofNat']; omega
  · rintro rfl
    rw [UInt8.toNat_ofNat']; omega
theorem is32 (b : UInt8) : ((b.toNat : Int) = 32) ↔ b = 32 := u8_eq b 32 (by omega)
def okAt (l : List UInt8) (i : Nat) : Bool :=
  if l.getD i 0 = 32 then !(i == 0 || (i + 1 == l.length || l.getD (i - 1) 0 == 32)) else decide (65 ≤ (l.getD i 0).toNat) && decide ((l.getD i 0).toNat ≤ 90)
theorem range_succ (i d : Nat) : List.range' i (d + 1) = i :: List.range' (i + 1) d := by rw [List.range'_succ]
theorem letter_eq (s : ByteArray) (i : Nat) (h : i < s.data.toList.length) : spec_l01Letter.f (bt s i) = some (decide (65 ≤ (s.data.toList.getD i 0).toNat) && decide ((s.data.toList.getD i 0).toNat ≤ 90)) := by
  unfold spec_l01Letter.f
  rw [bt_get s i h]
  by_cases h1 : 65 ≤ (s.data.toList.getD i 0).toNat
  · rw [if_pos (by omega)]; simp only [h1, decide_true, Bool.true_and]; congr 1; rw [Bool.eq_iff_iff]; simp; omega
  · rw [if_neg (by omega)]; simp only [h1, decide_false, Bool.false_and]
theorem isLetter_eq (s : ByteArray) (i : Nat) (h : i < s.data.toList.length) : impl_isLetter.f (bt s i) = some (decide (65 ≤ (s.data.toList.getD i 0).toNat) && decide ((s.data.toList.getD i 0).toNat ≤ 90)) := by
  unfold impl_isLetter.f
  rw [bt_get s i h]
  by_cases h1 : 65 ≤ (s.data.toList.getD i 0).toNat
  · rw [if_pos (by omega)]; simp only [h1, decide_true, Bool.true_and]; congr 1; rw [Bool.eq_iff_iff]; simp; omega
  · rw [if_neg (by omega)]; simp only [h1, decide_false, Bool.false_and]
theorem text_l0 (s : ByteArray) (hs : s.size ≤ 4611686018427387904) : ∀ (d k i : Nat), i + d = s.size → d < k →
    spec_l01Text.l0 k s i = some ((List.range' i d).all (okAt s.data.toList) && decide (s.size ≤ 60))
  | 0, k, i, hd, hk => by
    obtain ⟨k, rfl⟩ := some_k hk
    simp only [spec_l01Text.l0]
    rw [if_neg (by omega)]
    simp only [List.range'_zero, List.all_nil, Bool.true_and]
    congr 1
    rw [Bool.eq_iff_iff]; simp; omega
  | d + 1, k, i, hd, hk => by
    obtain ⟨k, rfl⟩ := some_k hk
    have hlen : s.data.toList.length = s.size := data_length s
    have ih := text_l0 s hs d k (i + 1) (by omega) (by omega)
    simp only [spec_l01Text.l0]
    rw [if_pos (by omega), if_pos (by omega), wrap_succ i (by omega), ih, letter_eq s i (by omega), bt_get s i (by omega)]
    rw [range_succ, List.all_cons]
    by_cases h1 : s.data.toList.getD i 0 = 32
    · rw [if_pos ((is32 _).2 h1)]
      by_cases h2 : i = 0
      · rw [if_pos (by omega)]
        subst h2
        have e : okAt s.data.toList 0 = false := by unfold okAt; rw [if_pos h1]; simp
        rw [e]; simp
      · rw [if_neg (by omega), w64 (x := (s.size : Int) - 1) (by omega) (by omega)]
        by_cases h3 : i + 1 = s.size
        · rw [if_pos (by omega)]
          have h3' : i + 1 = s.data.toList.length := by omega
          have e : okAt s.data.toList i = false := by
            unfold okAt
            rw [if_pos h1, show (i + 1 == s.data.toList.length) = true from by rw [beq_iff_eq]; exact h3']
            simp
          rw [e]; simp
        · rw [if_neg (by omega), w64 (x := (i : Int) - 1) (by omega) (by omega), if_pos (by omega), if_pos (by omega)]
          rw [show (i : Int) - 1 = ((i - 1 : Nat) : Int) by omega, bt_get s (i - 1) (by omega)]
          by_cases h4 : s.data.toList.getD (i - 1) 0 = 32
          · rw [if_pos ((is32 _).2 h4)]
            have e : okAt s.data.toList i = false := by unfold okAt; rw [if_pos h1, h4]; simp
            rw [e]; simp
          · rw [if_neg (fun h => h4 ((is32 _).1 h))]
            have e : okAt s.data.toList i = true := by
              unfold okAt
              rw [if_pos h1]
              have h4' : (s.data.toList.getD (i - 1) 0 == 32) = false := by rw [beq_eq_false_iff_ne]; exact h4
              have h3' : (i + 1 == s.data.toList.length) = false := by rw [beq_eq_false_iff_ne]; omega
              have h2' : (i == 0) = false := by rw [beq_eq_false_iff_ne]; omega
              rw [h4', h3', h2']; rfl
            rw [e]; simp
    · rw [if_neg (fun h => h1 ((is32 _).1 h))]
      have e : okAt s.data.toList i = (decide (65 ≤ (s.data.toList.getD i 0).toNat) && decide ((s.data.toList.getD i 0).toNat ≤ 90)) := by unfold okAt; rw [if_neg h1]
      rw [e, Option.bind_some]
      cases (decide (65 ≤ (s.data.toList.getD i 0).toNat) && decide ((s.data.toList.getD i 0).toNat ≤ 90)) <;> simp
theorem spaced_l0 (s : ByteArray) (hs : s.size ≤ 4294967280) : ∀ (d k i : Nat), i + d = s.size → d < k →
    impl_isSpaced.l0 k s (s.size : Int) i = some ((List.range' i d).all (fun j => okB (s.data.toList.getD j 0)) && !(Lib.contains s.data.toList [32, 32]))
  | 0, k, i, hd, hk => by
    obtain ⟨k, rfl⟩ := some_k hk
    simp only [impl_isSpaced.l0]
    rw [if_neg (by omega)]
    unfold strings_Contains.f
    rw [if_pos (by omega)]
    simp
  | d + 1, k, i, hd, hk => by
    obtain ⟨k, rfl⟩ := some_k hk
    have hlen : s.data.toList.length = s.size := data_length s
    have ih := spaced_l0 s hs d k (i + 1) (by omega) (by omega)
    simp only [impl_isSpaced.l0]
    rw [if_pos (by omega), if_pos (by omega), if_pos (by omega), wrap_succ i (by omega), ih, isLetter_eq s i (by omega), bt_get s i (by omega), Option.bind_some, range_succ, List.all_cons]
    have e : okB (s.data.toList.getD i 0) = ((decide (65 ≤ (s.data.toList.getD i 0).toNat) && decide ((s.data.toList.getD i 0).toNat ≤ 90)) || s.data.toList.getD i 0 == 32) := rfl
    rw [e]
    cases hc : (decide (65 ≤ (s.data.toList.getD i 0).toNat) && decide ((s.data.toList.getD i 0).toNat ≤ 90))
    · simp only [Bool.false_eq_true, if_false, Bool.false_or]
      by_cases h1 : s.data.toList.getD i 0 = 32
      · rw [if_pos ((is32 _).2 h1), h1]; simp
      · rw [if_neg (fun h => h1 ((is32 _).1 h))]
        have : (s.data.toList.getD i 0 == 32) = false := by rw [beq_eq_false_iff_ne]; exact h1
        rw [this]; simp
    · simp
theorem range_all (l : List UInt8) (p : UInt8 → Bool) : (List.range' 0 l.length).all (fun j => p (l.getD j 0)) = l.all p := by
  rw [Bool.eq_iff_iff, List.all_eq_true, List.all_eq_true]
  constructor
  · intro h x hx
    obtain ⟨i, hi, rfl⟩ := List.mem_iff_getElem.1 hx
    have := h i (by simp [List.mem_range']; omega)
    simpa [List.getD_eq_getElem?_getD, hi] using this
  · intro h i hi
    have hi' : i < l.length := by simpa [List.mem_range'] using hi
    have := h _ (List.getElem_mem hi')
    simpa [List.getD_eq_getElem?_getD, hi'] using this
theorem noTwo_iff : ∀ l : List UInt8, noTwo l = true ↔ ∀ i, i + 1 < l.length → ¬ (l.getD i 0 = 32 ∧ l.getD (i + 1) 0 = 32)
  | [] => by simp [noTwo]
  | [a] => by simp [noTwo]
  | a :: b :: l => by
    have ih := noTwo_iff (b :: l)
    simp only [noTwo, Bool.and_eq_true, Bool.not_eq_true', Bool.and_eq_false_iff, beq_eq_false_iff_ne]
    rw [ih]
    constructor
    · rintro ⟨h1, h2⟩ i hi
      cases i with
      | zero => simp; intro ha; rcases h1 with h | h; exact absurd ha h; exact h
      | succ i =>
        have := h2 i (by simp at hi ⊢; omega)
        simpa using this
    · intro h
      refine ⟨?_, fun i hi => ?_⟩
      · have := h 0 (by simp)
        simp at this
        by_cases ha : a = 32
        · exact .inr (this ha)
        · exact .inl ha
      · have := h (i + 1) (by simp at hi ⊢; omega)
        simpa using this
theorem head_iff (l : List UInt8) : (l.head? != some 32) = true ↔ ¬ (0 < l.length ∧ l.getD 0 0 = 32) := by
  cases l with
  | nil => simp
  | cons a t => simp
theorem last_iff (l : List UInt8) : (l.getLast? != some 32) = true ↔ ¬ (0 < l.length ∧ l.getD (l.length - 1) 0 = 32) := by
  rw [List.getLast?_eq_getElem?]
  by_cases h : 0 < l.length
  · have hi : l.length - 1 < l.length := by omega
    rw [List.getD_eq_getElem?_getD, List.getElem?_eq_getElem hi]
    simp [h]
  · have : l = [] := List.length_eq_zero_iff.1 (by omega)
    subst this; simp
theorem okAt_iff (l : List UInt8) : (List.range' 0 l.length).all (okAt l) = ((l.all okB && noTwo l) && (l.head? != some 32 && l.getLast? != some 32)) := by
  rw [Bool.eq_iff_iff]
  simp only [Bool.and_eq_true]
  rw [noTwo_iff, head_iff, last_iff, ← range_all l okB]
  simp only [List.all_eq_true, List.mem_range', Nat.zero_add, Nat.one_mul]
  have hok : ∀ i, okB (l.getD i 0) = true ↔ (l.getD i 0 = 32 ∨ (65 ≤ (l.getD i 0).toNat ∧ (l.getD i 0).toNat ≤ 90)) := by
    intro i
    simp only [okB, Bool.or_eq_true, Bool.and_eq_true, decide_eq_true_eq, beq_iff_eq]
    constructor
    · rintro (h | h)
      · exact .inr h
      · exact .inl h
    · rintro (h | h)
      · exact .inr h
      · exact .inl h
  have hat : ∀ i, okAt l i = true ↔ ((l.getD i 0 = 32 ∧ i ≠ 0 ∧ i + 1 ≠ l.length ∧ l.getD (i - 1) 0 ≠ 32) ∨ (l.getD i 0 ≠ 32 ∧ 65 ≤ (l.getD i 0).toNat ∧ (l.getD i 0).toNat ≤ 90)) := by
    intro i
    unfold okAt
    by_cases h : l.getD i 0 = 32
    · rw [if_pos h]
      simp only [Bool.not_eq_true', Bool.or_eq_false_iff, beq_eq_false_iff_ne, h, true_and, ne_eq, not_true_eq_false, false_and, or_false]
    · rw [if_neg h]
      simp only [Bool.and_eq_true, decide_eq_true_eq, h, false_and, false_or, ne_eq, not_false_eq_true, true_and]
  constructor
  · intro h
    have h' : ∀ i, i < l.length → okAt l i = true := fun i hi => h i ⟨i, hi, rfl⟩
    refine ⟨⟨?_, ?_⟩, ?_, ?_⟩
    · rintro i ⟨_, hj, rfl⟩
      rw [hok]
      rcases (hat i).1 (h' i hj) with h1 | h1
      · exact .inl h1.1
      · exact .inr h1.2
    · rintro i hi ⟨h1, h2⟩
      rcases (hat (i + 1)).1 (h' (i + 1) hi) with h3 | h3
      · exact h3.2.2.2 h1
      · exact h3.1 h2
    · rintro ⟨h1, h2⟩
      rcases (hat 0).1 (h' 0 h1) with h3 | h3
      · exact h3.2.1 rfl
      · exact h3.1 h2
    · rintro ⟨h1, h2⟩
      rcases (hat (l.length - 1)).1 (h' _ (by omega)) with h3 | h3
      · exact h3.2.2.1 (by omega)
      · exact h3.1 h2
  · rintro ⟨⟨h1, h2⟩, h3, h4⟩ i ⟨_, hj, rfl⟩
    rw [hat]
    rcases (hok i).1 (h1 i ⟨i, hj, rfl⟩) with h5 | h5
    · left
      refine ⟨h5, ?_, ?_, ?_⟩
      · rintro rfl; exact h3 ⟨hj, h5⟩
      · intro he
        refine h4 ⟨by omega, ?_⟩
        rw [show l.length - 1 = i by omega]; exact h5
      · intro he
        cases i with
        | zero => exact h3 ⟨hj, h5⟩
        | succ j => exact h2 j hj ⟨he, h5⟩
    · right
      refine ⟨?_, h5⟩
      intro he
      rw [he] at h5
      have : (32 : UInt8).toNat = 32 := rfl
      omega
theorem text_eq (s : ByteArray) (hs : s.size ≤ 4611686018427387904) {k : Nat} (hk : s.size < k) : spec_l01Text.f k s = some (txt s.data.toList) := by
  unfold spec_l01Text.f
  have := text_l0 s hs s.size k 0 (by omega) hk
  rw [show ((0 : Nat) : Int) = 0 from rfl] at this
  rw [this]
  have hlen : s.data.toList.length = s.size := data_length s
  have h2 := okAt_iff s.data.toList
  rw [hlen] at h2
  rw [h2]
  unfold txt
  rw [hlen, Bool.and_comm, ← Bool.and_assoc]
theorem valid_eq (s : ByteArray) {k : Nat} (hk : s.size < k ∨ 60 < k) : impl_ValidText.f k s = some (txt s.data.toList) := by
  have hlen : s.data.toList.length = s.size := data_length s
  unfold impl_ValidText.f
  by_cases h : s.size ≤ 60
  · rw [if_pos (by omega)]
    unfold impl_isSpaced.f
    have := spaced_l0 s (by omega) s.size k 0 (by omega) (by omega)
    rw [show ((0 : Nat) : Int) = 0 from rfl] at this
    rw [this, Option.bind_some]
    have h2 := range_all s.data.toList okB
    rw [hlen] at h2
    rw [h2, contains_two, Bool.not_not]
    unfold txt strings_Trim.f
    rw [hlen, if_pos (show _ ∧ _ from ⟨rfl, by omega⟩), Option.bind_some, toList_data, toList_data]
    have ht := trim_eq_iff s.data.toList
    have hd : decide (s.size ≤ 60) = true := by simpa using h
    rw [hd, Bool.true_and]
    cases (s.data.toList.all okB && noTwo s.data.toList)
    · simp
    · simp only [if_true, Bool.true_and]
      congr 1
      rw [Bool.eq_iff_iff, beq_iff_eq]
      show Lib.trimB s.data.toList 32 = s.data.toList ↔ _
      rw [ht]
      simp
  · rw [if_neg (by omega)]
    unfold txt
    rw [hlen]
    simp [h]
end Go.Proofs.YthchdlniopmcoaaDoor.Pure
namespace Go.Proofs.YthchdlniopmcoaaDoor.Ext
open Go.RowKit Go.Proofs.YthchdlniopmcoaaDoorW.PrintWords Go.Proofs.YthchdlniopmcoaaDoorW.PrintLast Go.Proofs.YthchdlniopmcoaaDoorW.PrintMore
set_option linter.unusedVariables false
set_option linter.unusedSimpArgs false
theorem size_bld : (Tryd.prog.info? 66).map (·.size) = some 2 := by kernel_rfl
theorem lies_bld : liesAt Tryd.prog Tryd.prog.depth 66 (2 / Tryd.prog.cellsOf 66) 0 66 1 = true := by kernel_rfl
theorem info_byte : (Tryd.prog.info? 5).map (fun i => (i.zero, i.size, i.bytes)) = some (some (.int .u8 0), 1, 1) := by kernel_rfl
abbrev Bld (B b : Nat) (bs : List Value) (w : World) : Prop := Lib.IsBuilder 66 5 B b bs w
theorem bld_at_below {B b : Nat} {p : Value} {bs : List Value} {w w1 : World} (h : Lib.BuilderAt 66 5 B b p bs w) (hb : Below w.heap.size w w1) : Lib.BuilderAt 66 5 B b p bs w1 := by
  have hlt := h.lt
  obtain ⟨hB, v, hbk, hown, hne⟩ := h
  exact ⟨hB, v, by rw [hb.block b hlt]; exact hbk, hown.kept (row := none) ⟨hb.os, hb.tape, hb.output, hb.size, fun k hk _ => hb.block k hk⟩ (by
    cases hv : v.ownBlock with
    | none => exact Or.inl rfl
    | some x => exact Or.inr (by simp)), hne⟩
theorem bld_below {B b : Nat} {bs : List Value} {w w1 : World} (h : Bld B b bs w) (hb : Below w.heap.size w w1) : Bld B b bs w1 := by
  rcases h with h | h
  · exact Or.inl (bld_at_below h hb)
  · exact Or.inr (bld_at_below h hb)
theorem bld_set {B b g j : Nat} {bs : List Value} {w : World} {t : TypeId} {cs : Array Value} {v : Value} (h : Bld B b bs w) (hg : w.heap[g]? = some (.cells cs t (0, 0))) (h1 : t ≠ 66 := by decide) (h2 : t ≠ 5 := by decide) : Bld B b bs (w.setCell ⟨g, j, none⟩ v) := by
  have each : ∀ p, Lib.BuilderAt 66 5 B b p bs w → Lib.BuilderAt 66 5 B b p bs (w.setCell ⟨g, j, none⟩ v) := by
    rintro p ⟨hB, u, hbk, hown, hne⟩
    have hbg : b ≠ g := by
      rintro rfl
      rw [hbk] at hg
      simp only [Option.some.injEq, Obj.cells.injEq] at hg
      exact h1 hg.2.1.symm
    exact ⟨hB, u, (Below.heap_setCell w ⟨g, j, none⟩ v b hbg).trans hbk, hown.kept (row := some g) ⟨rfl, rfl, rfl, by simp [World.setCell], fun k _ hk => Below.heap_setCell _ _ _ _ (fun e => hk (by simp [e]))⟩ (Or.inr (Lib.ownBlock_ne hown hg h2)), hne⟩
  rcases h with h | h
  · exact Or.inl (each _ h)
  · exact Or.inr (each _ h)
theorem bld_new {B b : Nat} {w : World} (hB : B ≤ b) (hb : w.heap[b]? = some (.cells #[.pointer none, .slice none 0 0] 66 (0, 0))) : Bld B b [] w :=
  Or.inl ⟨hB, .slice none 0 0, hb, World.ownsRow_nil _ _ _ _, by simp [Value.ownBlock]⟩
set_option maxHeartbeats 1000000 in
set_option maxRecDepth 100000 in
theorem copyCheck_used (b : Nat) (w : World) (h0 : w.cell? ⟨b, 0, none⟩ = some (.pointer (some ⟨b, 0, none⟩))) :
    Calls Tryd.prog 66 #[.pointer (some ⟨b, 0, none⟩)] w fun e w' => e = .returned (.tuple #[]) ∧ w' = w := by
  obtain ⟨j, hj, _⟩ := Option.map_eq_some_iff.1 size_bld
  go_enter Tryd.func66, Tryd.ntmps66
  go_wp2
  rw [Lib.run_neq_ptr_same w _ Tryd.underlying63 hj]
  go_wp2
  go_end0
  exact ⟨rfl, rfl⟩
set_option maxHeartbeats 1000000 in
set_option maxRecDepth 100000 in
theorem copyCheck_fresh (b : Nat) (w : World) (h0 : w.cell? ⟨b, 0, none⟩ = some (.pointer none)) (hsh : w.shape? b = some (66, 2)) (hfz : w.frozen? ⟨b, 0, none⟩ = false) :
    Calls Tryd.prog 66 #[.pointer (some ⟨b, 0, none⟩)] w fun e w' => e = .returned (.tuple #[]) ∧ w' = w.setCell ⟨b, 0, none⟩ (.pointer (some ⟨b, 0, none⟩)) := by
  obtain ⟨j, hj, hjs⟩ := Option.map_eq_some_iff.1 size_bld
  go_enter Tryd.func66, Tryd.ntmps66
  go_wp2
  rw [Lib.run_to_unsafe w ⟨b, 0, none⟩ Tryd.underlying63 Tryd.underlying100 hj (by rw [hjs]; decide) hsh (Nat.zero_lt_succ 1)]
  simp only [Result.andThen]
  rw [Oper.upon_value]
  go_wp2
  rw [run_callFunc_extern Tryd.func84 (by kernel_rfl) (by kernel_rfl) (by kernel_rfl) (e := Extern.AbiNoEscape.same) (by kernel_rfl)]
  rw [Lib.run_noEscape]
  simp only [Result.andThen]
  rw [Oper.upon_value]
  go_wp2
  rw [Lib.run_from_unsafe w ⟨b, 0, none⟩ Tryd.underlying100 Tryd.underlying63 hj hsh lies_bld]
  simp only [Result.andThen]
  rw [Oper.upon_value]
  go_wp2
  go_end0
  exact ⟨rfl, rfl⟩
theorem copyCheck_calls (B b : Nat) (bs : List Value) (w : World) (h : Bld B b bs w) :
    Calls Tryd.prog 66 #[.pointer (some ⟨b, 0, none⟩)] w fun e w' => e = .returned (.tuple #[]) ∧ (Lib.BuilderAt 66 5 B b (.pointer (some ⟨b, 0, none⟩)) bs w' ∧ Below B w w') := by
  rcases h with h | h
  · refine (copyCheck_fresh b w h.cell0 h.shape h.frozen0).mono ?_
    rintro e w' ⟨rfl, rfl⟩
    exact ⟨rfl, h.used _, (Below.refl B w).setCell (p := ⟨b, 0, none⟩) h.1 _⟩
  · refine (copyCheck_used b w h.cell0).mono ?_
    rintro e w' ⟨rfl, rfl⟩
    exact ⟨rfl, h, Below.refl B _⟩
set_option maxHeartbeats 2000000 in
set_option maxRecDepth 100000 in
theorem writeString_calls (B b : Nat) (bs : List Value) (s : ByteArray) (w : World) (h : Bld B b bs w) (hlen : bs.length + s.size ≤ 140737488355328) (hBw : B ≤ w.heap.size) :
    Calls Tryd.prog 41 #[.pointer (some ⟨b, 0, none⟩), .string s] w fun e w' => e = .returned (.tuple #[.int .i64 s.size, .nilIface]) ∧ Bld B b (bs ++ Lib.strCells s) w' ∧ Below B w w' := by
  obtain ⟨i0, hi, hz0, hz1, hz2⟩ := info_parts info_byte
  go_enter Tryd.func41, Tryd.ntmps41
  go_wp2_with (go_at_call 66; refine (copyCheck_calls B b bs _ h).mono ?_)
  rintro e w1 ⟨rfl, h1, hb1⟩
  obtain ⟨hB, v, hbk, hown, hne⟩ := h1
  have c0 : w1.cell? ⟨b, 0, none⟩ = some (.pointer (some ⟨b, 0, none⟩)) := by rw [Lib.cell_of_heap hbk]; rfl
  have c1 : w1.cell? ⟨b, 1, none⟩ = some v := by rw [Lib.cell_of_heap hbk]; rfl
  go_wp2_with (at_builtin; refine Lib.wpList_append_own_string _ rfl _ _ 64 9 rfl B 5 i0 Tryd.underlying64 Tryd.underlying9 hi hz0 hz1 hz2 _ _ _ rfl hown s rfl ?c3 ?c4 ?c5 ?_)
  case c3 => unfold maxLen; omega
  case c4 => omega
  case c5 => have := hb1.size; omega
  intro v' w2 hown' hgrow _
  have hlt : b < w1.heap.size := by
    rcases Nat.lt_or_ge b w1.heap.size with h' | h'
    · exact h'
    · simp [Array.getElem?_eq_none h'] at hbk
  have hb2 : w2.heap[b]? = some (.cells #[.pointer (some ⟨b, 0, none⟩), v] 66 (0, 0)) := by
    rw [hgrow.block b hlt (fun e => hne e.symm)]
    exact hbk
  have d0 : w2.cell? ⟨b, 0, none⟩ = some (.pointer (some ⟨b, 0, none⟩)) := by rw [Lib.cell_of_heap hb2]; rfl
  have d1 : w2.cell? ⟨b, 1, none⟩ = some v := by rw [Lib.cell_of_heap hb2]; rfl
  have f1 : w2.frozen? ⟨b, 1, none⟩ = false := Lib.frozen_of_heap hb2 1
  obtain ⟨ao, n', cap, rfl⟩ : ∃ ao n' cap, v' = .slice ao n' cap := by
    rcases hown'.2 with ⟨hv, _⟩ | ⟨g, cap, cur, hv, _⟩
    · exact ⟨_, _, _, hv⟩
    · exact ⟨_, _, _, hv⟩
  go_wp2
  go_ret2
  refine ⟨rfl, Or.inr ?_, ?_⟩
  · exact Lib.BuilderAt.put (T := 66) (e := 5) hB hb2 (bs' := bs ++ Lib.strCells s) (by simpa [Lib.strCells_length] using hown') (by decide)
  · exact (hb1.grown hgrow (by have := hb1.size; omega) (fun k hk => (hown.lt k hk).1)).setCell (p := ⟨b, 1, none⟩) hB _
open Go.RowKit Go.Proofs.YthchdlniopmcoaaDoor.Q Go.Proofs.YthchdlniopmcoaaDoor.Txt Go.Proofs.YthchdlniopmcoaaDoorW.PrintWords Go.Proofs.YthchdlniopmcoaaDoorW.PrintLast Go.Proofs.YthchdlniopmcoaaDoorW.PrintMore
abbrev Pc := S53
def pcV (x : Pc) : Value := .agg #[.string x.f0, .int .u8 x.f1, .int .u8 x.f2]
def idxP (p : Pc → Bool) : List Pc → Int
  | [] => -1
  | x :: xs => if p x then 0 else if idxP p xs < 0 then -1 else idxP p xs + 1
theorem idxP_lo (p : Pc → Bool) (l : List Pc) : -1 ≤ idxP p l ∧ idxP p l < l.length := by
  induction l with
  | nil => simp [idxP]
  | cons x xs ih => simp only [idxP, List.length_cons]; split <;> (try split) <;> omega
theorem idxP_any_iff (p : Pc → Bool) (l : List Pc) : 0 ≤ idxP p l ↔ l.any p = true := by
  induction l with
  | nil => simp [idxP]
  | cons x xs ih =>
    have := idxP_lo p xs
    simp only [idxP, List.any_cons, Bool.or_eq_true, ← ih]
    by_cases hx : p x = true
    · simp [hx]
    · rw [if_neg hx]
      split
      · constructor
        · intro h; omega
        · rintro (h | h)
          · exact absurd h hx
          · omega
      · constructor
        · intro h; right; omega
        · intro h; omega
theorem idxP_any (p : Pc → Bool) (l : List Pc) : decide (0 ≤ idxP p l) = l.any p := by
  rw [Bool.eq_iff_iff, decide_eq_true_iff]
  exact idxP_any_iff p l
theorem idxP_miss (p : Pc → Bool) : ∀ (l : List Pc), (∀ j, j < l.length → p (l.getD j z53) = false) → idxP p l = -1
  | [], _ => rfl
  | x :: xs, h => by
    have h0 := h 0 (by simp)
    have ih := idxP_miss p xs (fun j hj => by have := h (j + 1) (by simp; omega); simpa using this)
    simp at h0
    simp [idxP, h0, ih]
theorem idxP_hit (p : Pc → Bool) : ∀ (l : List Pc) (k : Nat), k < l.length → p (l.getD k z53) = true → (∀ j, j < k → p (l.getD j z53) = false) → idxP p l = k
  | [], k, hk, _, _ => by simp at hk
  | x :: xs, 0, hk, h, _ => by simp at h; simp [idxP, h]
  | x :: xs, k + 1, hk, h, hm => by
    have h0 := hm 0 (by omega)
    simp at h0
    have ih := idxP_hit p xs k (by simp at hk; omega) (by simpa using h) (fun j hj => by have := hm (j + 1) (by omega); simpa using this)
    simp [idxP, h0, ih]
    omega
def PrediP (g : Nat) (lb : Array Value) (p : Pc → Bool) (w : World) : Prop :=
  ∀ (W : World) (x : Pc), Below w.heap.size w W → Calls Tryd.prog g (#[pcV x] ++ lb) W fun e w' => e = .returned (.bool (p x)) ∧ Below w.heap.size w w'
theorem cellB {w w1 : World} (hb : Below w.heap.size w w1) {p : Addr} {v : Value} (h : w.cell? p = some v) : w1.cell? p = some v := (hb.cell (World.block_lt_of_cell? w _ h)).trans h
set_option maxHeartbeats 1000000 in
theorem indexFunc_pc (g : Nat) (lb : Array Value) (p : Pc → Bool) (eg : ∀ args w, (callFunc g args).run Tryd.prog w = .ok (.enter g args) w) (A : Option Addr) (c : Nat) (l : List Pc) (w : World)
    (hp : PrediP g lb p w) (hr : Kd.C k53 w A l.length l) :
    Calls Tryd.prog 77 #[.slice A l.length c, .func (.func g) #[] lb] w fun e w' => e = .returned (.int .i64 (idxP p l)) ∧ Below w.heap.size w w' := by
  have HR := Aside0.mk hr
  have hbig : l.length ≤ 9223372036854775807 := hr.2.1
  clear hr
  go_enter Tryd.func77, Tryd.ntmps77
  go_wp2
  go_loopg [5, 8] l.length (fun gg _ s8 wr => ∃ kk : Nat, kk ≤ l.length ∧ l.length - kk ≤ gg ∧ s8 = .int .i64 kk ∧ Aside0 (Below w.heap.size w wr) ∧ Aside0 (∀ j, j < kk → p (l.getD j z53) = false))
  case atStart => exact ⟨0, Nat.zero_le _, by omega, rfl, ⟨Below.refl _ w⟩, ⟨fun j hj => absurd hj (Nat.not_lt_zero _)⟩⟩
  case round =>
    obtain ⟨kk, hkk, hg, rfl, BW, A1⟩ := hrel
    by_cases hlt : kk < l.length
    · have hltz : (kk : Int) < (l.length : Int) := by omega
      obtain ⟨ad, rfl, hc0, hc1, hc2⟩ := at_T53 HR.out kk (by omega) (by omega)
      rw [Int.toNat_natCast] at hc0 hc1 hc2
      replace hc0 := cellB BW.out hc0
      replace hc1 := cellB BW.out hc1
      replace hc2 := cellB BW.out hc2
      have hcall := hp wr (rd_T53 l kk) BW.out
      clear hp
      generalize hy : rd_T53 l kk = y at hc0 hc1 hc2 hcall
      have B := Aside0.mk hy
      clear hy
      obtain ⟨y0, y1, y2⟩ := y
      dsimp only at hc0 hc1 hc2
      unfold pcV at hcall
      dsimp only at hcall
      cases hq : p ⟨y0, y1, y2⟩ with
      | true =>
        rw [hq] at hcall
        go_wp2_with fail
        refine hcall.mono ?_
        rintro e w' ⟨rfl, hb'⟩
        go_wp2_with fail
        go_ret
        refine ⟨?_, hb'⟩
        rw [idxP_hit p l kk hlt (by have := B.out; unfold rd_T53 at this; simp only [Int.toNat_natCast] at this; rw [this]; exact hq) A1.out]
        rfl
      | false =>
        rw [hq] at hcall
        go_wp2_with fail
        refine hcall.mono ?_
        rintro e w' ⟨rfl, hb'⟩
        go_wp2_with fail
        go_roundg (l.length - (kk + 1))
        case measure => omega
        case rel =>
          refine ⟨kk + 1, by omega, by omega, by go_num, ⟨hb'⟩, ⟨fun j hj => ?_⟩⟩
          by_cases e : j = kk
          · subst e
            have := B.out; unfold rd_T53 at this; simp only [Int.toNat_natCast] at this; rw [this]; exact hq
          · exact A1.out j (by omega)
    · have hltz : ¬ (kk : Int) < (l.length : Int) := by omega
      have : kk = l.length := by omega
      subst this
      go_wp2
      go_ret
      refine ⟨?_, BW.out⟩
      rw [idxP_miss p l A1.out]
      rfl
set_option maxHeartbeats 1000000 in
theorem containsFunc_pc (g : Nat) (lb : Array Value) (p : Pc → Bool) (eg : ∀ args w, (callFunc g args).run Tryd.prog w = .ok (.enter g args) w) (A : Option Addr) (c : Nat) (l : List Pc) (w : World)
    (hp : PrediP g lb p w) (hr : Kd.C k53 w A l.length l) :
    Calls Tryd.prog 54 #[.slice A l.length c, .func (.func g) #[] lb] w fun e w' => e = .returned (.bool (l.any p)) ∧ Below w.heap.size w w' := by
  rw [← idxP_any]
  go_enter Tryd.func54, Tryd.ntmps54
  go_wp2_with (go_at_call 77; refine (indexFunc_pc g lb p eg A c l _ hp hr).mono ?_; rintro e w' ⟨rfl, hb'⟩)
  go_ret
  exact ⟨rfl, hb'⟩
theorem vtext_calls (s : ByteArray) (w : World) (hG : GlobMT w) : Calls Tryd.prog 56 #[.string s] w fun e w' => e = .returned (.bool (txt s.data.toList)) ∧ Below w.heap.size w w' :=
  (impl_ValidText.calls 100 s _ w hG (Pure.valid_eq s (by omega))).mono fun e w' h => ⟨h.1, by have := h.2; first | exact this | exact this.below⟩
def pieceB (x : Pc) : Bool := txt x.f0.data.toList && decide (x.f0.size ≤ 20)
theorem pieceB_f {a : ByteArray} {b c : Int} (h : txt a.data.toList = false) : pieceB ⟨a, b, c⟩ = false := by unfold pieceB; rw [h]; rfl
theorem pieceB_t {a : ByteArray} {b c : Int} (h : txt a.data.toList = true) : pieceB ⟨a, b, c⟩ = decide (a.size ≤ 20) := by unfold pieceB; rw [h]; rfl
set_option maxHeartbeats 1000000 in
theorem pred_ValidPieces (w : World) (hG : GlobMT w) : PrediP 55 #[] (fun x => !pieceB x) w := by
  intro W x hb
  obtain ⟨y0, y1, y2⟩ := x
  unfold pcV
  dsimp only
  have HG := Aside0.mk (hG.below hb)
  have HB := Aside0.mk hb
  have B0 := Aside0.mk (blk_new W (.cells #[.string y0, .int .u8 y1, .int .u8 y2] 53))
  clear hG hb
  have c0 : (W.alloc (.cells #[.string y0, .int .u8 y1, .int .u8 y2] 53)).cell? ⟨W.heap.size, 0, none⟩ = some (.string y0) := (blk_cell B0.out 0).trans rfl
  go_enter Tryd.func55, Tryd.ntmps55
  go_wp2_with fail
  clear c0
  refine (vtext_calls y0 _ (HG.out.below (below_alloc (Below.refl _ _) _))).mono ?_
  rintro e w2 ⟨rfl, hb2⟩
  have c0 : w2.cell? ⟨W.heap.size, 0, none⟩ = some (.string y0) := (blk_cell (blk_below B0.out hb2) 0).trans rfl
  have HB2 := Aside0.mk (HB.out.trans ((below_step (below_alloc (Below.refl W.heap.size W) _) hb2).mono HB.out.size))
  clear hb2
  cases hq : txt y0.data.toList with
  | false =>
    have e1 := Aside0.mk (pieceB_f (b := y1) (c := y2) hq)
    clear hq
    go_wp2
    go_ret
    exact ⟨by rw [e1.out]; rfl, HB2.out⟩
  | true =>
    have e1 := Aside0.mk (pieceB_t (b := y1) (c := y2) hq)
    clear hq
    have e2 : decide ((20 : Int) < (y0.size : Int)) = !(decide (y0.size ≤ 20)) := by
      rw [Bool.eq_iff_iff]; simp; omega
    have E2 := Aside0.mk e2
    clear e2
    go_wp2
    go_ret
    exact ⟨by rw [e1.out, ← E2.out]; first | rfl | (simp; done), HB2.out⟩
def piecesB (l : List Pc) : Bool := decide (l.length ≤ 8) && l.all pieceB
def impl_ValidPieces.f (l : List Pc) : Option Bool := some (piecesB l)
set_option maxHeartbeats 1000000 in
theorem impl_ValidPieces.calls (A : Option Addr) (c : Nat) (l : List Pc) (r : Bool) (w : World) (hr : Kd.C k53 w A l.length l) (hc : l.length ≤ c) (hG : GlobMT w) (h : impl_ValidPieces.f l = some r) :
    Calls Tryd.prog 29 #[.slice A l.length c] w fun e w' => e = .returned (.bool r) ∧ Below w.heap.size w w' := by
  obtain rfl := Option.some.inj h
  have HR := Aside0.mk hr
  have HG := Aside0.mk hG
  clear hr hG h
  by_cases hl : l.length ≤ 8
  · go_enter Tryd.func29, Tryd.ntmps29
    go_wp2_with fail
    refine (containsFunc_pc _ _ _ (enters_of Tryd.func55 (by kernel_rfl) rfl) A c l _ (pred_ValidPieces _ HG.out) HR.out).mono ?_
    rintro e w' ⟨rfl, hb⟩
    go_wp2_with fail
    go_ret
    refine ⟨?_, hb⟩
    have e1 : (!(l.any fun s => !pieceB s)) = l.all pieceB := by
      rw [Bool.eq_iff_iff]
      simp
    unfold piecesB
    rw [show decide (l.length ≤ 8) = true by simpa using hl, Bool.true_and, ← e1]
    rfl
  · go_enter Tryd.func29, Tryd.ntmps29
    go_wp2_with fail
    go_ret
    refine ⟨?_, Below.refl _ w⟩
    unfold piecesB
    rw [show decide (l.length ≤ 8) = false by simpa using hl, Bool.false_and]
    rfl
theorem decimal_calls (n : Int) (h0 : -9223372036854775808 ≤ n) (h1 : n ≤ 9223372036854775807) (w : World) (hG : GlobT w) :
    Calls Tryd.prog 42 #[.int .i64 n] w fun e w' => e = .returned (.string ⟨(Lib.itoa n).toArray⟩) ∧ Below w.heap.size w w' := by
  go_enter Tryd.func42, Tryd.ntmps42
  go_wp2_with fail
  refine (Tryd.strconv_FormatInt_10 n h0 h1 w hG.t).mono ?_
  rintro e w' ⟨rfl, k, os, rfl⟩
  go_wp2_with fail
  go_ret
  exact ⟨rfl, Lib.below_grow _ w (Nat.le_refl _) k os⟩
def pline (x : Pc) : List UInt8 := Lib.itoa x.f1 ++ ([58] ++ (x.f0.data.toList ++ ([58] ++ (Lib.itoa x.f2 ++ [10]))))
def ptext (l : List Pc) : List UInt8 := l.flatMap pline
def rngP (l : List Pc) : Bool := l.all fun x => (inB x.f1 0 255 && inB x.f2 0 255)
theorem rngP_of {l : List Pc} (h : rngP l = true) : ∀ x ∈ l, (0 ≤ x.f1 ∧ x.f1 ≤ 255) ∧ (0 ≤ x.f2 ∧ x.f2 ≤ 255) := fun x hx => by
  have := List.all_eq_true.1 h x hx
  rw [Bool.and_eq_true, inB_iff, inB_iff] at this
  exact this
theorem piecesB_at {l : List Pc} (h : piecesB l = true) : l.length ≤ 8 ∧ ∀ x ∈ l, x.f0.size ≤ 20 := by
  unfold piecesB at h
  rw [Bool.and_eq_true, decide_eq_true_iff, List.all_eq_true] at h
  refine ⟨h.1, fun x hx => ?_⟩
  have := h.2 x hx
  unfold pieceB at this
  rw [Bool.and_eq_true, decide_eq_true_iff] at this
  exact this.2
theorem pline_le (x : Pc) (h1 : 0 ≤ x.f1 ∧ x.f1 ≤ 255) (h2 : 0 ≤ x.f2 ∧ x.f2 ≤ 255) (h : x.f0.size ≤ 20) : (pline x).length ≤ 65 := by
  have a := Lib.itoa_length_le x.f1 (by omega) (by omega)
  have b := Lib.itoa_length_le x.f2 (by omega) (by omega)
  have c : x.f0.data.toList.length = x.f0.size := by simp
  unfold pline
  simp only [List.length_append, List.length_singleton]
  omega
theorem ptext_take {l : List Pc} (k : Nat) (h : k < l.length) : ptext (l.take (k + 1)) = ptext (l.take k) ++ pline (rd_T53 l k) := by
  unfold ptext rd_T53
  rw [List.take_succ_eq_append_getElem h, List.flatMap_append, Int.toNat_natCast, List.getD_eq_getElem?_getD, List.getElem?_eq_getElem h]
  simp
theorem ptext_le (l : List Pc) (hr : ∀ x ∈ l, (0 ≤ x.f1 ∧ x.f1 ≤ 255) ∧ (0 ≤ x.f2 ∧ x.f2 ≤ 255)) (hs : ∀ x ∈ l, x.f0.size ≤ 20) : (ptext l).length ≤ 65 * l.length := by
  induction l with
  | nil => simp [ptext]
  | cons x xs ih =>
    have := ih (fun y hy => hr y (List.mem_cons_of_mem _ hy)) (fun y hy => hs y (List.mem_cons_of_mem _ hy))
    have a := pline_le x (hr x List.mem_cons_self).1 (hr x List.mem_cons_self).2 (hs x List.mem_cons_self)
    unfold ptext at *
    rw [List.flatMap_cons, List.length_append, List.length_cons]
    omega
theorem rd_mem (l : List Pc) (k : Nat) (h : k < l.length) : rd_T53 l k ∈ l := by
  unfold rd_T53
  rw [Int.toNat_natCast, List.getD_eq_getElem?_getD, List.getElem?_eq_getElem h]
  exact List.getElem_mem h
theorem line_cells (bs : List UInt8) (a : ByteArray) (b c : Int) (s : ByteArray) (h : s = ⟨(pline ⟨a, b, c⟩).toArray⟩) : Lib.byteCells bs ++ Lib.strCells s = Lib.byteCells (bs ++ pline ⟨a, b, c⟩) := by
  subst h
  rw [Lib.byteCells_append, Lib.strCells_eq]
theorem line_str (a : ByteArray) (b c : Int) : ((((((⟨(Lib.itoa b).toArray⟩ : ByteArray) ++ ⟨#[58]⟩) ++ a) ++ ⟨#[58]⟩) ++ ⟨(Lib.itoa c).toArray⟩) ++ ⟨#[10]⟩) = ⟨(pline ⟨a, b, c⟩).toArray⟩ := by
  apply ba_ext
  simp [pline]
theorem dec8_calls (t : ByteArray) (y : Int) (h0 : 0 ≤ y) (h1 : y ≤ 255) (ht : t = ⟨(Lib.itoa y).toArray⟩) (w : World) (hG : GlobT w) :
    Calls Tryd.prog 42 #[.int .i64 (wrap64 y)] w fun e w' => e = .returned (.string t) ∧ Below w.heap.size w w' := by
  subst ht
  rw [show wrap64 y = y by unfold wrap64; omega]
  exact decimal_calls y (by omega) (by omega) w hG
theorem writeLine_calls (B b : Nat) (bs : List UInt8) (y0 t1 t2 : ByteArray) (y1 y2 : Int) (ht1 : t1 = ⟨(Lib.itoa y1).toArray⟩) (ht2 : t2 = ⟨(Lib.itoa y2).toArray⟩) (w : World) (h : Bld B b (Lib.byteCells bs) w) (hl : bs.length ≤ 1000) (hp : (pline ⟨y0, y1, y2⟩).length ≤ 65) (hBw : B ≤ w.heap.size) :
    Calls Tryd.prog 41 #[.pointer (some ⟨b, 0, none⟩), .string (((((t1 ++ ⟨#[58]⟩) ++ y0) ++ ⟨#[58]⟩) ++ t2) ++ ⟨#[10]⟩)] w fun e w' => (∃ n : Int, e = .returned (.tuple #[.int .i64 n, .nilIface])) ∧ Bld B b (Lib.byteCells (bs ++ pline ⟨y0, y1, y2⟩)) w' ∧ Below B w w' := by
  subst ht1 ht2
  rw [line_str]
  refine (writeString_calls B b _ _ w h (by rw [Lib.byteCells_length]; show _ + (pline ⟨y0, y1, y2⟩).toArray.size ≤ _; rw [List.size_toArray]; omega) hBw).mono ?_
  rintro e w' ⟨rfl, h1, h2⟩
  rw [line_cells _ y0 y1 y2 _ rfl] at h1
  exact ⟨⟨_, rfl⟩, h1, h2⟩
def impl_PiecesText.f (l : List Pc) : Option ByteArray := if rngP l = true then some (if piecesB l = true then ⟨(ptext l).toArray⟩ else ⟨#[]⟩) else none
set_option maxHeartbeats 2000000 in
set_option maxRecDepth 100000 in
theorem impl_PiecesText.calls (A : Option Addr) (c : Nat) (l : List Pc) (r : ByteArray) (w : World) (hr : Kd.C k53 w A l.length l) (hc : l.length ≤ c) (hG : GlobMT w) (h : impl_PiecesText.f l = some r) :
    Calls Tryd.prog 20 #[.slice A l.length c] w fun e w' => e = .returned (.string r) ∧ Below w.heap.size w w' := by
  unfold impl_PiecesText.f at h
  split at h
  case isFalse => cases h
  rename_i hrng
  have HRNG := Aside0.mk (rngP_of hrng)
  have hr2 := Option.some.inj h
  have HR := Aside0.mk hr
  have HC := Aside0.mk hc
  have HG := Aside0.mk hG
  clear hr hG h hrng hc
  go_enter Tryd.func20, Tryd.ntmps20
  go_wp2_with fail
  refine (impl_ValidPieces.calls A c l _ w HR.out HC.out HG.out rfl).mono ?_
  rintro e w1 ⟨rfl, hb⟩
  have HB := Aside0.mk hb
  clear hb
  cases hv : piecesB l with
  | false =>
    rw [hv, if_neg (by simp)] at hr2
    subst hr2
    clear hv
    go_wp2
    go_ret
    exact ⟨rfl, HB.out⟩
  | true =>
    rw [hv, if_pos rfl] at hr2
    have HV := Aside0.mk (piecesB_at hv)
    have HE := Aside0.mk hr2
    clear hv hr2
    go_wp2_with (first
      | ((with_reducible refine gate_dst (N := 3) rfl ?_); refine box_event ?hg (N := 3) ?hd (cs := #[.pointer none, .slice none 0 0]) (t := 66) ?hr ?_; (case hd => rfl); (case hg => rfl); (case hr => first | (go_simp; done) | (go_simp; rfl)); intro b hg w2 hbox hb; have hgb : w1.heap.size ≤ b := (by rw [hg]; exact Nat.le_refl _); have GB := Aside0.mk (show w.heap.size ≤ b from Nat.le_trans HB.out.size hgb); have n0_ := Aside0.mk (below_step HB.out hb); have BK := Aside0.mk hbox; clear HB; have HB := n0_; clear n0_ hg hb hgb hbox; have hf0 := blk_frozen BK.out 0; have hf1 := blk_frozen BK.out 1; have hc0 : w2.cell? ⟨b, 0, none⟩ = some (.pointer none) := (blk_cell BK.out 0).trans rfl; have hc1 : w2.cell? ⟨b, 1, none⟩ = some (.slice none 0 0) := (blk_cell BK.out 1).trans rfl)
      | ((with_reducible refine gate_store (t := 66) (p := 3) rfl ?_); refine store_event (t := 66) (p := 3) (v := ?vo1_) (w1 := ((w2.setCell ⟨b, 0, none⟩ (.pointer none)).setCell ⟨b, 1, none⟩ (.slice none 0 0))) ?hg ?ho ?hn ?hr ?_; (case ho => rfl); (case hg => rfl); (case hn => rfl); (case hr => first | (go_simp; done) | (go_simp; rfl)); intro w3 hw; have n0_ : Aside0 (w3.heap[b]? = some (.cells #[.pointer none, .slice none 0 0] 66 (0, 0))) := ⟨by rw [hw]; refine blk_put (cs := #[.pointer none, .slice none 0 0]) ?_ 1 _ rfl; refine blk_put (cs := #[.pointer none, .slice none 0 0]) ?_ 0 _ rfl; exact BK.out⟩; have n1_ : Aside0 (Below w.heap.size w w3) := ⟨by rw [hw]; exact below_set (below_set HB.out GB.out) GB.out⟩; clear BK HB hc0 hc1 hf0 hf1 hw; have BLD := Aside0.mk (bld_new GB.out n0_.out); have HB := n1_; clear n0_ n1_))
    go_loopg [12] l.length (fun gg s12 wr => ∃ kk : Nat, kk ≤ l.length ∧ l.length - kk ≤ gg ∧ s12 = .int .i64 kk ∧ Aside0 (Below w.heap.size w wr) ∧ Aside0 (Bld w.heap.size b (Lib.byteCells (ptext (l.take kk))) wr))
    case atStart => exact ⟨0, Nat.zero_le _, by omega, rfl, ⟨HB.out⟩, ⟨by rw [List.take_zero]; exact BLD.out⟩⟩
    case round =>
      clear HB BLD
      obtain ⟨kk, hkk, hgk, rfl, HB, BLD⟩ := hrel
      have hl8 : l.length ≤ 8 := HV.out.1
      by_cases hlt : kk < l.length
      · have hltz : (kk : Int) < (l.length : Int) := by omega
        obtain ⟨ad, hA, hc0, hc1, hc2⟩ := at_T53 HR.out kk (by omega) (by omega)
        have HA := Aside0.mk hA
        subst hA
        rw [Int.toNat_natCast] at hc0 hc1 hc2
        replace hc0 := cellB HB.out hc0
        replace hc1 := cellB HB.out hc1
        replace hc2 := cellB HB.out hc2
        have HM := Aside0.mk (rd_mem l kk hlt)
        have HT := Aside0.mk (ptext_take (l := l) kk hlt)
        have HL := Aside0.mk (ptext_le (l.take kk) (fun x hx => HRNG.out x (List.mem_of_mem_take hx)) (fun x hx => HV.out.2 x (List.mem_of_mem_take hx)))
        generalize rd_T53 l kk = y at hc0 hc1 hc2 HM HT
        obtain ⟨y0, y1, y2⟩ := y
        dsimp only at hc0 hc1 hc2
        have hy1 : 0 ≤ y1 ∧ y1 ≤ 255 := (HRNG.out _ HM.out).1
        have hy2 : 0 ≤ y2 ∧ y2 ≤ 255 := (HRNG.out _ HM.out).2
        have HLe := Aside0.mk (pline_le ⟨y0, y1, y2⟩ hy1 hy2 (HV.out.2 _ HM.out))
        obtain ⟨t1, ht1⟩ : ∃ t : ByteArray, t = ⟨(Lib.itoa y1).toArray⟩ := ⟨_, rfl⟩
        obtain ⟨t2, ht2⟩ : ∃ t : ByteArray, t = ⟨(Lib.itoa y2).toArray⟩ := ⟨_, rfl⟩
        have l1 : t1.size ≤ 21 := by rw [ht1]; show (Lib.itoa y1).toArray.size ≤ 21; rw [List.size_toArray]; exact Lib.itoa_length_le y1 (by omega) (by omega)
        have l2 : t2.size ≤ 21 := by rw [ht2]; show (Lib.itoa y2).toArray.size ≤ 21; rw [List.size_toArray]; exact Lib.itoa_length_le y2 (by omega) (by omega)
        have l0 : y0.size ≤ 20 := HV.out.2 _ HM.out
        have T1 := Aside0.mk ht1
        have T2 := Aside0.mk ht2
        clear ht1 ht2
        have z1 : (9223372036854775807 < t1.size + 1) = False := eq_false (by omega)
        have z2 : (9223372036854775807 < t1.size + 1 + y0.size) = False := eq_false (by omega)
        have z3 : (9223372036854775807 < t1.size + 1 + y0.size + 1) = False := eq_false (by omega)
        have z4 : (9223372036854775807 < t1.size + 1 + y0.size + 1 + t2.size) = False := eq_false (by omega)
        have z5 : (9223372036854775807 < t1.size + 1 + y0.size + 1 + t2.size + 1) = False := eq_false (by omega)
        have hy10 := hy1.1
        have hy11 := hy1.2
        have hy20 := hy2.1
        have hy21 := hy2.2
        clear hy1 hy2
        go_upto_region 7 with (first
          | ((with_reducible refine gate_dst (N := 5) rfl ?_); refine box_event ?hg (N := 5) ?hd (cs := #[.string ⟨#[]⟩, .int .u8 0, .int .u8 0]) (t := 53) ?hr ?_; (case hd => rfl); (case hg => rfl); (case hr => first | (go_simp; done) | (go_simp; rfl)); intro g hg w4 hbox hb; have GG := Aside0.mk (show w.heap.size ≤ g from by rw [hg]; exact HB.out.size); have NB := Aside0.mk (show b ≠ g from by rw [hg]; rcases BLD.out with q | q <;> exact Nat.ne_of_lt q.lt); have n0_ := Aside0.mk (below_step HB.out hb); have n1_ := Aside0.mk (bld_below BLD.out hb); have BK := Aside0.mk hbox; clear HB BLD; have HB := n0_; have BLD := n1_; clear n0_ n1_ hg hb hbox hc0 hc1 hc2; have hf0 := blk_frozen BK.out 0; have hf1 := blk_frozen BK.out 1; have hf2 := blk_frozen BK.out 2; have hc0 : w4.cell? ⟨g, 0, none⟩ = some (.string ⟨#[]⟩) := (blk_cell BK.out 0).trans rfl; have hc1 : w4.cell? ⟨g, 1, none⟩ = some (.int .u8 0) := (blk_cell BK.out 1).trans rfl; have hc2 : w4.cell? ⟨g, 2, none⟩ = some (.int .u8 0) := (blk_cell BK.out 2).trans rfl)
          | ((with_reducible refine gate_store (t := 53) (p := 5) rfl ?_); refine store_event (t := 53) (p := 5) (v := ?vo2_) (w1 := (((w4.setCell ⟨g, 0, none⟩ (.string y0)).setCell ⟨g, 1, none⟩ (.int .u8 y1)).setCell ⟨g, 2, none⟩ (.int .u8 y2))) ?hg ?ho ?hn ?hr ?_; (case ho => rfl); (case hg => rfl); (case hn => rfl); (case hr => first | (go_simp; done) | (go_simp; rfl)); intro w5 hw; have n0_ : Aside0 (w5.heap[g]? = some (.cells #[.string y0, .int .u8 y1, .int .u8 y2] 53 (0, 0))) := ⟨by rw [hw]; refine blk_put (cs := #[.string y0, .int .u8 y1, .int .u8 0]) ?_ 2 _ rfl; refine blk_put (cs := #[.string y0, .int .u8 0, .int .u8 0]) ?_ 1 _ rfl; refine blk_put (cs := #[.string ⟨#[]⟩, .int .u8 0, .int .u8 0]) ?_ 0 _ rfl; exact BK.out⟩; have n1_ : Aside0 (Below w.heap.size w w5) := ⟨by rw [hw]; exact below_set (below_set (below_set HB.out GG.out) GG.out) GG.out⟩; have n2_ : Aside0 (Bld w.heap.size b (Lib.byteCells (ptext (l.take kk))) w5) := ⟨by rw [hw]; exact bld_set (bld_set (bld_set BLD.out BK.out) (blk_put BK.out 0 _ rfl)) (blk_put (blk_put BK.out 0 _ rfl) 1 _ rfl)⟩; clear BK HB BLD hc0 hc1 hc2 hf0 hf1 hf2 hw; have BK := n0_; have HB := n1_; have BLD := n2_; clear n0_ n1_ n2_))
        refine start_ (n := 16) (S := fun w' => w'.cell? ⟨g, 0, none⟩ = some (.string y0) ∧ w'.cell? ⟨g, 1, none⟩ = some (.int .u8 y1) ∧ w'.cell? ⟨g, 2, none⟩ = some (.int .u8 y2) ∧ Below w.heap.size w w' ∧ Bld w.heap.size b (Lib.byteCells (ptext (l.take kk))) w') (ds := [15]) #[false, false, false, false, false, false, false, false, false, false, false, false, false, false, false, false] (by kernel_rfl) rfl rfl ⟨((blk_cell (blk_below BK.out (below_drew (Below.refl _ _))) 0).trans rfl), ((blk_cell (blk_below BK.out (below_drew (Below.refl _ _))) 1).trans rfl), ((blk_cell (blk_below BK.out (below_drew (Below.refl _ _))) 2).trans rfl), (below_step HB.out (below_drew (Below.refl _ _))), (bld_below BLD.out (below_drew (Below.refl _ _)))⟩ (fun hHeld => ?_)
        refine pure_ (i := 0) (N := some 16) (v := ?_) (a' := ?_) #[true, false, false, false, false, false, false, false, false, false, false, false, false, false, false, false] rfl rfl (by kernel_rfl) (fun _ _ _ h => h) (Or.inl ⟨by rfl, ?_⟩) ?_ ?_
        rotate_left
        · intro w'
          go_simp
          with_reducible rfl
        rotate_left
        · simp only [Act.put, List.setIfInBounds_toArray, List.set_cons_zero, List.set_cons_succ, i64_w, i32_w]
          rfl
        refine pure_ (i := 5) (N := some 21) (v := ?_) (a' := ?_) #[true, false, false, false, false, true, false, false, false, false, false, false, false, false, false, false] rfl rfl (by kernel_rfl) (fun _ _ _ h => h) (Or.inl ⟨by rfl, ?_⟩) ?_ ?_
        rotate_left
        · intro w'
          go_simp
          with_reducible rfl
        rotate_left
        · simp only [Act.put, List.setIfInBounds_toArray, List.set_cons_zero, List.set_cons_succ, i64_w, i32_w]
          rfl
        refine pure_ (i := 9) (N := some 25) (v := ?_) (a' := ?_) #[true, false, false, false, false, true, false, false, false, true, false, false, false, false, false, false] rfl rfl (by kernel_rfl) (fun _ _ _ h => h) (Or.inl ⟨by rfl, ?_⟩) ?_ ?_
        rotate_left
        · intro w'
          go_simp
          with_reducible rfl
        rotate_left
        · simp only [Act.put, List.setIfInBounds_toArray, List.set_cons_zero, List.set_cons_succ, i64_w, i32_w]
          rfl
        refine take_ (i := 1) (N := some 17) (v := ?_) (a' := ?_) #[true, true, false, false, false, true, false, false, false, true, false, false, false, false, false, false] rfl rfl (by kernel_rfl) (fun _ _ _ h => h) (Or.inl ⟨by rfl, ?_⟩) hHeld ?_ ?_
        rotate_left
        · rintro w' ⟨s0, s1, s2, s3, s4⟩
          go_simp
          with_reducible rfl
        rotate_left
        · simp only [Act.put, List.setIfInBounds_toArray, List.set_cons_zero, List.set_cons_succ, i64_w, i32_w]
          rfl
        refine pure_ (i := 2) (N := some 18) (v := ?_) (a' := ?_) #[true, true, true, false, false, true, false, false, false, true, false, false, false, false, false, false] rfl rfl (by kernel_rfl) (fun _ _ _ h => h) (Or.inl ⟨by rfl, ?_⟩) ?_ ?_
        rotate_left
        · intro w'
          go_simp
          with_reducible rfl
        rotate_left
        · simp only [Act.put, List.setIfInBounds_toArray, List.set_cons_zero, List.set_cons_succ, i64_w, i32_w]
          rfl
        refine take_ (i := 6) (N := some 22) (v := ?_) (a' := ?_) #[true, true, true, false, false, true, true, false, false, true, false, false, false, false, false, false] rfl rfl (by kernel_rfl) (fun _ _ _ h => h) (Or.inl ⟨by rfl, ?_⟩) hHeld ?_ ?_
        rotate_left
        · rintro w' ⟨s0, s1, s2, s3, s4⟩
          go_simp
          with_reducible rfl
        rotate_left
        · simp only [Act.put, List.setIfInBounds_toArray, List.set_cons_zero, List.set_cons_succ, i64_w, i32_w]
          rfl
        refine take_ (i := 10) (N := some 26) (v := ?_) (a' := ?_) #[true, true, true, false, false, true, true, false, false, true, true, false, false, false, false, false] rfl rfl (by kernel_rfl) (fun _ _ _ h => h) (Or.inl ⟨by rfl, ?_⟩) hHeld ?_ ?_
        rotate_left
        · rintro w' ⟨s0, s1, s2, s3, s4⟩
          go_simp
          with_reducible rfl
        rotate_left
        · simp only [Act.put, List.setIfInBounds_toArray, List.set_cons_zero, List.set_cons_succ, i64_w, i32_w]
          rfl
        refine pure_ (i := 11) (N := some 27) (v := ?_) (a' := ?_) #[true, true, true, false, false, true, true, false, false, true, true, true, false, false, false, false] rfl rfl (by kernel_rfl) (fun _ _ _ h => h) (Or.inl ⟨by rfl, ?_⟩) ?_ ?_
        rotate_left
        · intro w'
          go_simp
          with_reducible rfl
        rotate_left
        · simp only [Act.put, List.setIfInBounds_toArray, List.set_cons_zero, List.set_cons_succ, i64_w, i32_w]
          rfl
        refine one_ (i := 3) (N := some 19) #[true, true, true, true, false, true, true, false, false, true, true, true, false, false, false, false] rfl rfl (by kernel_rfl) (by decide) (fun K hK => ?_)
        refine goes_ Tryd.func42 (by kernel_rfl) rfl #[.int .i64 (wrap64 y1)] (by rfl) rfl rfl (by simp only [List.map_toArray, List.map_cons, List.map_nil]; rfl) ?_
        with_reducible refine ((dec8_calls t1 y1 (by omega) (by omega) T1.out _ (HG.out.toT.below hHeld.2.2.2.1))).mono ?_
        rintro e w6 ⟨rfl, hb⟩
        refine ⟨_, rfl, ?_⟩
        refine hK.out _ _ ⟨(cellB hb hHeld.1), (cellB hb hHeld.2.1), (cellB hb hHeld.2.2.1), (below_step hHeld.2.2.2.1 hb), (bld_below hHeld.2.2.2.2 hb)⟩ (fun hHeld => ?_)
        clear hK K
        refine norm_ (a' := ?_) ?_ ?_
        rotate_left
        · show Act.put _ (some 19) _ = _
          simp only [Act.put, List.setIfInBounds_toArray, List.set_cons_zero, List.set_cons_succ, i64_w, i32_w]
          rfl
        refine pure_ (i := 4) (N := some 20) (v := ?_) (a' := ?_) #[true, true, true, true, true, true, true, false, false, true, true, true, false, false, false, false] rfl rfl (by kernel_rfl) (fun _ _ _ h => h) (Or.inl ⟨by rfl, ?_⟩) ?_ ?_
        rotate_left
        · intro w'
          go_simp
          with_reducible rfl
        rotate_left
        · simp only [Act.put, List.setIfInBounds_toArray, List.set_cons_zero, List.set_cons_succ, i64_w, i32_w]
          rfl
        refine pure_ (i := 7) (N := some 23) (v := ?_) (a' := ?_) #[true, true, true, true, true, true, true, true, false, true, true, true, false, false, false, false] rfl rfl (by kernel_rfl) (fun _ _ _ h => h) (Or.inl ⟨by rfl, ?_⟩) ?_ ?_
        rotate_left
        · intro w'
          go_simp
          with_reducible rfl
        rotate_left
        · simp only [Act.put, List.setIfInBounds_toArray, List.set_cons_zero, List.set_cons_succ, i64_w, i32_w]
          rfl
        refine pure_ (i := 8) (N := some 24) (v := ?_) (a' := ?_) #[true, true, true, true, true, true, true, true, true, true, true, true, false, false, false, false] rfl rfl (by kernel_rfl) (fun _ _ _ h => h) (Or.inl ⟨by rfl, ?_⟩) ?_ ?_
        rotate_left
        · intro w'
          go_simp
          with_reducible rfl
        rotate_left
        · simp only [Act.put, List.setIfInBounds_toArray, List.set_cons_zero, List.set_cons_succ, i64_w, i32_w]
          rfl
        refine one_ (i := 12) (N := some 28) #[true, true, true, true, true, true, true, true, true, true, true, true, true, false, false, false] rfl rfl (by kernel_rfl) (by decide) (fun K hK => ?_)
        refine goes_ Tryd.func42 (by kernel_rfl) rfl #[.int .i64 (wrap64 y2)] (by rfl) rfl rfl (by simp only [List.map_toArray, List.map_cons, List.map_nil]; rfl) ?_
        with_reducible refine ((dec8_calls t2 y2 (by omega) (by omega) T2.out _ (HG.out.toT.below hHeld.2.2.2.1))).mono ?_
        rintro e w6 ⟨rfl, hb⟩
        refine ⟨_, rfl, ?_⟩
        refine hK.out _ _ ⟨(cellB hb hHeld.1), (cellB hb hHeld.2.1), (cellB hb hHeld.2.2.1), (below_step hHeld.2.2.2.1 hb), (bld_below hHeld.2.2.2.2 hb)⟩ (fun hHeld => ?_)
        clear hK K
        refine norm_ (a' := ?_) ?_ ?_
        rotate_left
        · show Act.put _ (some 28) _ = _
          simp only [Act.put, List.setIfInBounds_toArray, List.set_cons_zero, List.set_cons_succ, i64_w, i32_w]
          rfl
        refine pure_ (i := 13) (N := some 29) (v := ?_) (a' := ?_) #[true, true, true, true, true, true, true, true, true, true, true, true, true, true, false, false] rfl rfl (by kernel_rfl) (fun _ _ _ h => h) (Or.inl ⟨by rfl, ?_⟩) ?_ ?_
        rotate_left
        · intro w'
          go_simp
          with_reducible rfl
        rotate_left
        · simp only [Act.put, List.setIfInBounds_toArray, List.set_cons_zero, List.set_cons_succ, i64_w, i32_w]
          rfl
        refine pure_ (i := 14) (N := some 30) (v := ?_) (a' := ?_) #[true, true, true, true, true, true, true, true, true, true, true, true, true, true, true, false] rfl rfl (by kernel_rfl) (fun _ _ _ h => h) (Or.inl ⟨by rfl, ?_⟩) ?_ ?_
        rotate_left
        · intro w'
          go_simp
          with_reducible rfl
        rotate_left
        · simp only [Act.put, List.setIfInBounds_toArray, List.set_cons_zero, List.set_cons_succ, i64_w, i32_w]
          rfl
        refine last_ (i := 15) (N := some 31) #[true, true, true, true, true, true, true, true, true, true, true, true, true, true, true, true] rfl rfl (by kernel_rfl) (by decide) (fun K hK => ?_)
        refine goes_ Tryd.func41 (by kernel_rfl) rfl #[.pointer (some ⟨b, 0, none⟩), .string (((((t1 ++ ⟨#[58]⟩) ++ y0) ++ ⟨#[58]⟩) ++ t2) ++ ⟨#[10]⟩)] (by rfl) rfl rfl (by simp only [List.map_toArray, List.map_cons, List.map_nil]; rfl) ?_
        with_reducible refine ((writeLine_calls w.heap.size b _ y0 t1 t2 y1 y2 T1.out T2.out _ hHeld.2.2.2.2 (by have := HL.out; rw [List.length_take] at this; omega) HLe.out hHeld.2.2.2.1.size)).mono ?_
        rintro e w6 ⟨⟨n_, rfl⟩, hbl, hb⟩
        refine ⟨_, rfl, ?_⟩
        have BLD3 := Aside0.mk hbl
        have HB3 := Aside0.mk (hHeld.2.2.2.1.trans hb)
        clear hbl hb
        refine hK.out _ _ ?_
        clear hK K
        refine norm_ (a' := ?_) ?_ ?_
        rotate_left
        · show Act.put _ (some 31) _ = _
          simp only [Act.put, List.setIfInBounds_toArray, List.set_cons_zero, List.set_cons_succ, i64_w, i32_w]
          rfl
        refine done_ (by kernel_rfl) ?_
        go_wp2_with fail
        go_roundg (l.length - (kk + 1))
        case measure => omega
        case rel => exact ⟨kk + 1, by omega, by omega, by go_num, HB3, ⟨by rw [HT.out]; exact BLD3.out⟩⟩
      · have : kk = l.length := by omega
        subst this
        rw [List.take_length] at BLD
        go_wp2_with fail
        refine (Tryd.Builder_String_any w.heap.size b (ptext l) _ BLD.out HB.out.size).mono ?_
        rintro e w' ⟨rfl, hb⟩
        have HX := Aside0.mk (HB.out.trans hb)
        clear hb
        go_wp2
        go_ret
        exact ⟨by rw [HE.out]; rfl, HX.out⟩
end Go.Proofs.YthchdlniopmcoaaDoor.Ext
namespace Go.Proofs.YthchdlniopmcoaaDoor.Q
open Go.Proofs.YthchdlniopmcoaaDoor.Ext
open Go.RowKit Go.Proofs.YthchdlniopmcoaaDoorW.PrintWords Go.Proofs.YthchdlniopmcoaaDoorW.PrintLast Go.Proofs.YthchdlniopmcoaaDoorW.PrintMore
attribute [local go_sem] max2_int min2_int max_two min_two max_three min_three max_four min_four
set_option linter.unusedVariables false
set_option linter.unusedSimpArgs false
def spec_Decimal.f : Nat → Int → Option (ByteArray)
  | 0, _ => none
  | k + 1, a0 => if a0 < 10 then (some (strOfNums (([(wrap64 (48 + (Int.tmod a0 10))) % 256] : List Int)))) else ((spec_Decimal.f k (wrap64 (Int.tdiv a0 10))).bind fun t127 => ((some (([(wrap64 (48 + (Int.tmod a0 10))) % 256] : List Int) : List Int)).bind fun y128 => (if t127.size + (strOfNums y128).size ≤ 9223372036854775807 then (some (t127 ++ (strOfNums y128))) else (none))))
theorem spec_Decimal.mono_l : ∀ k, (∀ y0, LeO (spec_Decimal.f k y0) (spec_Decimal.f (k + 1) y0))
  | 0 => fun _ r h => by simp [spec_Decimal.f] at h
  | k + 1 => by
    have ih0 := spec_Decimal.mono_l k
    · intro y0
      unfold spec_Decimal.f
      repeat' first
      | (with_reducible exact ih0 _)
      | (with_reducible exact LeO.refl _)
      | (with_reducible exact LeO.none _)
      | (with_reducible refine LeO.ite ?_ ?_)
      | (with_reducible refine LeO.bind ?_ (fun _ => ?_))
      | exact ih0 _
      | exact LeO.none _
      | refine LeO.ite ?_ ?_
      | refine LeO.bind ?_ (fun _ => ?_)
theorem spec_Decimal.mono : ∀ a0 k, LeO (spec_Decimal.f k a0) (spec_Decimal.f (k + 1) a0) := by
  intro a0 k
  have ih0 := spec_Decimal.mono_l k
  exact ih0 a0
def spec_Decimal.T3 : Bool × List (List Nat × List Nat) := (true, [([], []), ([0], [0]), ([1], [1]), ([], []), ([3], [3]), ([4], [4]), ([5], [5]), ([6], [6]), ([7], [7]), ([2, 8], [2, 8]), ([9, 2, 0, 1, 2, 3, 4, 5, 6, 7, 8, 9], [9])])
def spec_Decimal.B3 : List Nat := [0, 1, 3, 0, 8, 24, 56, 120, 248, 511, 1023]
theorem spec_Decimal.tab3 : rtab .any (opsOf Tryd.f65 3) = spec_Decimal.T3 := by kernel_rfl
theorem spec_Decimal.bits3 : waitsOk spec_Decimal.T3.2 spec_Decimal.B3 = true := by kernel_rfl
set_option maxHeartbeats 8000000 in
set_option maxRecDepth 100000 in
theorem spec_Decimal.calls (k : Nat) : ∀ (a0 : Int) (r : ByteArray) (w : World) (h : spec_Decimal.f k a0 = some r),
    Calls Tryd.prog 65 #[.int .i64 a0] w fun e w' => e = .returned (.string r) ∧ Below w.heap.size w w' := by
  induction k using Nat.strongRecOn with
  | _ k ih =>
  intro a0 r w h
  cases k with
  | zero => exact absurd h (by simp [spec_Decimal.f])
  | succ k =>
  simp only [spec_Decimal.f] at h
  have HB := Aside0.mk (Below.refl w.heap.size w)
  have H : (if a0 < 10 then (some (strOfNums (([(wrap64 (48 + (Int.tmod a0 10))) % 256] : List Int)))) else ((spec_Decimal.f k (wrap64 (Int.tdiv a0 10))).bind fun t127 => ((some (([(wrap64 (48 + (Int.tmod a0 10))) % 256] : List Int) : List Int)).bind fun y128 => (if t127.size + (strOfNums y128).size ≤ 9223372036854775807 then (some (t127 ++ (strOfNums y128))) else (none))))) = some r := h
  clear h
  by_cases c2 : a0 < 10
  · rw [if_pos c2] at H
    have c2b0 : decide (a0 < 10) = true := decide_eq_true c2
    clear c2
    obtain ⟨y124, hy124⟩ : ∃ y_ : List Int, y_ = (([(wrap64 (48 + (Int.tmod a0 10))) % 256] : List Int)) := ⟨_, rfl⟩
    replace H : (some (strOfNums y124)) = some r := by first | (rw [hy124]; with_reducible exact H) | (have H2_ := (Option.bind_some _ _).symm.trans H; rw [hy124]; with_reducible exact H2_) | (have H2_ := (Option.bind_some _ _).symm.trans H; with_reducible exact H2_) | with_reducible exact H | (rw [hy124]; exact H) | exact H
    have Ny124 := Aside0.mk hy124
    clear hy124
    obtain rfl := Option.some.inj H
    go_enter Tryd.func65, Tryd.ntmps65
    go_wp2_with (first | ((with_reducible refine gate_dst (N := 9) rfl ?_); refine Kd.R_lit (Kd.int .u8) _ 5 ?hg (N := 9) ?hd (xs := ([(wrap64 (48 + (Int.tmod a0 10))) % 256] : List Int)) (inner := [.int .u8 ((wrap64 (48 + (Int.tmod a0 10))) % 256)]) (ok := fun _ => True) (okp := fun _ => True) ?hr ?hp (fun _ hk => hk) trivial (Below.refl _ _) (Nat.le_refl _) (by simp) ?_; (case hd => rfl); (case hg => rfl); (case hr => first | (go_simp; done) | (go_simp; rfl)); (case hp => exact (Reps.one (show Kd.M (Kd.int .u8) _ _ _ ((wrap64 (48 + (Int.tmod a0 10))) % 256) [.int .u8 ((wrap64 (48 + (Int.tmod a0 10))) % 256)] from rfl) (Reps.none _ _))); intro v125 w3 ho4 hb hg_ hnew_; clear hg_ hnew_; (first | rw [← Ny124.out] at ho4 | (simp only [Int.reduceToNat] at ho4; rw [← Ny124.out] at ho4)); have n0_ := Aside0.mk (Kd.R_lower ho4 (below_size (by repeat (first | (with_reducible first | exact HB.out | apply below_alloc | apply pw_below_drewN | apply below_drew1) | exact HB.out)))); have n1_ := Aside0.mk (below_step (by repeat (first | (with_reducible first | exact HB.out | apply below_alloc | apply pw_below_drewN | apply below_drew1) | exact HB.out)) hb); clear HB; have HO126 := n0_; have HB := n1_; clear n0_ n1_; clear hb ho4; have hcv5 := own_string (P := Tryd.prog) Tryd.underlying64 Tryd.underlying5 Tryd.underlying9 (Kd.own_of_R HO126.out)))
    go_ret
    exact ⟨by first | rfl | (simp [errW_none, errW_some] <;> rfl) | (simp [*, errW_none, errW_some] <;> rfl), by repeat (first | (with_reducible first | exact HB.out | apply below_alloc | apply pw_below_drewN | apply below_drew1) | exact HB.out)⟩
  · rw [if_neg c2] at H
    have c2b0 : decide (a0 < 10) = false := decide_eq_false c2
    clear c2
    replace H := Option.bind_eq_some_iff.mp H
    obtain ⟨t127, A60, H⟩ := H
    replace H : ((some (([(wrap64 (48 + (Int.tmod a0 10))) % 256] : List Int) : List Int)).bind fun y128 => (if t127.size + (strOfNums y128).size ≤ 9223372036854775807 then (some (t127 ++ (strOfNums y128))) else (none))) = some r := H
    have A6 := Aside0.mk A60
    clear A60
    obtain ⟨y128, hy128⟩ : ∃ y_ : List Int, y_ = (([(wrap64 (48 + (Int.tmod a0 10))) % 256] : List Int)) := ⟨_, rfl⟩
    replace H : (if t127.size + (strOfNums y128).size ≤ 9223372036854775807 then (some (t127 ++ (strOfNums y128))) else (none)) = some r := by first | (rw [hy128]; with_reducible exact H) | (have H2_ := (Option.bind_some _ _).symm.trans H; rw [hy128]; with_reducible exact H2_) | (have H2_ := (Option.bind_some _ _).symm.trans H; with_reducible exact H2_) | with_reducible exact H | (rw [hy128]; exact H) | exact H
    have Ny128 := Aside0.mk hy128
    clear hy128
    by_cases c7 : t127.size + (strOfNums y128).size ≤ 9223372036854775807
    · rw [if_pos c7] at H
      have c7b0 := eq_true c7
      have c7b1 : decide (t127.size + (strOfNums y128).size ≤ 9223372036854775807) = true := decide_eq_true c7
      try have c7b2 : (9223372036854775807 < t127.size + (strOfNums y128).size) = False := eq_false (Nat.not_lt.2 c7)
      obtain rfl := Option.some.inj H
      go_enter Tryd.func65, Tryd.ntmps65
      try go_wp2
      have n0_ := Aside0.mk (below_drew1 HB.out)
      clear HB
      have HB := n0_
      clear n0_
      refine start_ (n := 11) (S := fun w' => True) (ds := []) #[false, false, false, false, false, false, false, false, false, false, false] (by kernel_rfl) rfl rfl trivial (fun hHeld => ?_); refine with_tabW spec_Decimal.tab3 spec_Decimal.bits3 (fun HT_ HW_ => ?_)
      generalize w.drew = w8 at HB hHeld ⊢
      refine pure_ (i := 0) (N := some 11) (v := ?_) (a' := ?_) #[true, false, false, false, false, false, false, false, false, false, false] rfl rfl (any_of HT_.out (by kernel_rfl)) (fun _ _ _ h => h) (Or.inl ⟨by rfl, ?_⟩) ?_ ?_
      rotate_left
      · intro w'
        go_simp
        with_reducible rfl
      rotate_left
      · simp only [Act.put, List.setIfInBounds_toArray, List.set_cons_zero, List.set_cons_succ, i64_w, i32_w]
        rfl
      refine pure_ (i := 1) (N := some 12) (v := ?_) (a' := ?_) #[true, true, false, false, false, false, false, false, false, false, false] rfl rfl (any_of HT_.out (by kernel_rfl)) (fun _ _ _ h => h) (Or.inl ⟨by rfl, ?_⟩) ?_ ?_
      rotate_left
      · intro w'
        go_simp
        with_reducible rfl
      rotate_left
      · simp only [Act.put, List.setIfInBounds_toArray, List.set_cons_zero, List.set_cons_succ, i64_w, i32_w]
        rfl
      refine pure_ (i := 3) (N := some 14) (v := ?_) (a' := ?_) #[true, true, false, true, false, false, false, false, false, false, false] rfl rfl (any_of HT_.out (by kernel_rfl)) (fun _ _ _ h => h) (Or.inl ⟨by rfl, ?_⟩) ?_ ?_
      rotate_left
      · intro w'
        go_simp
        with_reducible rfl
      rotate_left
      · simp only [Act.put, List.setIfInBounds_toArray, List.set_cons_zero, List.set_cons_succ, i64_w, i32_w]
        rfl
      refine pure_ (i := 4) (N := some 15) (v := ?_) (a' := ?_) #[true, true, false, true, true, false, false, false, false, false, false] rfl rfl (any_of HT_.out (by kernel_rfl)) (fun _ _ _ h => h) (Or.inl ⟨by rfl, ?_⟩) ?_ ?_
      rotate_left
      · intro w'
        go_simp
        with_reducible rfl
      rotate_left
      · simp only [Act.put, List.setIfInBounds_toArray, List.set_cons_zero, List.set_cons_succ, i64_w, i32_w]
        rfl
      refine pure_ (i := 5) (N := some 16) (v := ?_) (a' := ?_) #[true, true, false, true, true, true, false, false, false, false, false] rfl rfl (any_of HT_.out (by kernel_rfl)) (fun _ _ _ h => h) (Or.inl ⟨by rfl, ?_⟩) ?_ ?_
      rotate_left
      · intro w'
        go_simp
        with_reducible rfl
      rotate_left
      · simp only [Act.put, List.setIfInBounds_toArray, List.set_cons_zero, List.set_cons_succ, i64_w, i32_w]
        rfl
      refine pure_ (i := 6) (N := some 17) (v := ?_) (a' := ?_) #[true, true, false, true, true, true, true, false, false, false, false] rfl rfl (any_of HT_.out (by kernel_rfl)) (fun _ _ _ h => h) (Or.inl ⟨by rfl, ?_⟩) ?_ ?_
      rotate_left
      · intro w'
        go_simp
        with_reducible rfl
      rotate_left
      · simp only [Act.put, List.setIfInBounds_toArray, List.set_cons_zero, List.set_cons_succ, i64_w, i32_w]
        rfl
      refine join_ (σ := Value) 2 #[true, true, true, true, true, true, true, true, true, false, false] (fun s_ => [(13, .string t127), (18, s_), (19, .string (strOfNums y128))]) (fun s_ w' => (Kd.R (Kd.int .u8) 5 w' w.heap.size (fun _ => True) s_ y128) ∧ (Below w.heap.size w w')) ?_ ?_
      rotate_left
      · intro hCont
        refine two_ (i := 2) (j := 7) (Ni := some 13) (Nj := some 18) #[true, true, true, true, true, true, true, false, false, false, false] #[true, true, false, true, true, true, true, true, false, false, false] rfl rfl rfl rfl (two_of HT_.out (by kernel_rfl)) (by decide) (by decide) (fun K hK => ?_) (fun K hK => ?_)
        · skip
          refine goes_ Tryd.func65 (by kernel_rfl) rfl #[.int .i64 (wrap64 (Int.tdiv a0 10))] (by rfl) rfl rfl (by (try simp only [List.map_toArray, List.map_cons, List.map_nil]); first | done | rfl | (simp only [List.length_drop, List.length_take]; rfl)) ?_
          with_reducible refine (ih k (by omega) (wrap64 (Int.tdiv a0 10)) t127 _ A6.out).mono ?_
          rintro e w9 ⟨rfl, hb⟩
          refine ⟨_, rfl, ?_⟩
          have n0_ := Aside0.mk (below_step (by repeat (first | (with_reducible first | exact HB.out | apply below_alloc | apply pw_below_drewN | apply below_drew1) | exact HB.out)) hb)
          clear HB
          have HB := n0_
          clear n0_
          (try clear hb)
          (try clear hb2)
          (try clear hk)
          (try clear hi)
          refine hK.out _ _ trivial (fun hHeld => ?_)
          clear hK K
          refine norm_ (a' := ?_) ?_ ?_
          rotate_left
          · show Act.put _ (some 13) _ = _
            simp only [Act.put, List.setIfInBounds_toArray, List.set_cons_zero, List.set_cons_succ, i64_w, i32_w]
            rfl
          refine one_ (i := 7) (N := some 18) #[true, true, true, true, true, true, true, true, false, false, false] rfl rfl (one_of HT_.out (by kernel_rfl)) (by decide) (fun K hK => ?_)
          refine Kd.R_lit_step (Kd.int .u8) _ 5 ?hg (N := 18) ?hd (xs := ([(wrap64 (48 + (Int.tmod a0 10))) % 256] : List Int)) (inner := [.int .u8 ((wrap64 (48 + (Int.tmod a0 10))) % 256)]) (ok := fun _ => True) (okp := fun _ => True) ?hr ?hp (fun _ hk => hk) trivial (Below.refl _ _) (Nat.le_refl _) (by simp) ?_; (case hd => rfl); (case hg => rfl); (case hr => first | (go_simp; done) | (go_simp; rfl)); (case hp => exact (Reps.one (show Kd.M (Kd.int .u8) _ _ _ ((wrap64 (48 + (Int.tmod a0 10))) % 256) [.int .u8 ((wrap64 (48 + (Int.tmod a0 10))) % 256)] from rfl) (Reps.none _ _)))
          intro v129 w10 ho11 hb hg_ hnew_
          clear hg_ hnew_
          (first | rw [← Ny128.out] at ho11 | (simp only [Int.reduceToNat] at ho11; rw [← Ny128.out] at ho11))
          have n0_ := Aside0.mk (Kd.R_lower ho11 (below_size (by repeat (first | (with_reducible first | exact HB.out | apply below_alloc | apply pw_below_drewN | apply below_drew1) | exact HB.out))))
          have n1_ := Aside0.mk (below_step (by repeat (first | (with_reducible first | exact HB.out | apply below_alloc | apply pw_below_drewN | apply below_drew1) | exact HB.out)) hb)
          clear HB
          have HO130 := n0_
          have HB := n1_
          clear n0_ n1_
          clear hb ho11
          refine hK.out _ _ trivial (fun hHeld => ?_)
          clear hK K
          refine norm_ (a' := ?_) ?_ ?_
          rotate_left
          · show Act.put _ (some 18) _ = _
            simp only [Act.put, List.setIfInBounds_toArray, List.set_cons_zero, List.set_cons_succ, i64_w, i32_w]
            rfl
          refine one_ (i := 8) (N := some 19) #[true, true, true, true, true, true, true, true, true, false, false] rfl rfl (one_of HT_.out (by kernel_rfl)) (by decide) (fun K hK => ?_)
          have hcv12 := own_string (P := Tryd.prog) Tryd.underlying64 Tryd.underlying5 Tryd.underlying9 (Kd.own_of_R HO130.out)
          refine value_ (w1 := ?_) (v := ?_) (by rfl) rfl ?_ ?_
          rotate_left 2
          · go_simp
            constructor
            · rfl
            · rfl
          clear hcv12
          refine hK.out _ _ trivial (fun hHeld => ?_)
          clear hK K
          refine norm_ (a' := ?_) ?_ ?_
          rotate_left
          · show Act.put _ (some 19) _ = _
            simp only [Act.put, List.setIfInBounds_toArray, List.set_cons_zero, List.set_cons_succ, i64_w, i32_w]
            rfl
          exact norm_ (by simp only [putAll, Act.put, List.setIfInBounds_toArray, List.set_cons_zero, List.set_cons_succ]) (hCont (v129) _ ⟨(by (with_reducible repeat (first | apply Kd.R_alloc | apply Kd.R_drewN | apply Kd.R_drew)); exact HO130.out), (by repeat (first | (with_reducible first | exact HB.out | apply below_alloc | apply pw_below_drewN | apply below_drew1) | exact HB.out))⟩)
        · skip
          refine Kd.R_lit_step (Kd.int .u8) _ 5 ?hg (N := 18) ?hd (xs := ([(wrap64 (48 + (Int.tmod a0 10))) % 256] : List Int)) (inner := [.int .u8 ((wrap64 (48 + (Int.tmod a0 10))) % 256)]) (ok := fun _ => True) (okp := fun _ => True) ?hr ?hp (fun _ hk => hk) trivial (Below.refl _ _) (Nat.le_refl _) (by simp) ?_; (case hd => rfl); (case hg => rfl); (case hr => first | (go_simp; done) | (go_simp; rfl)); (case hp => exact (Reps.one (show Kd.M (Kd.int .u8) _ _ _ ((wrap64 (48 + (Int.tmod a0 10))) % 256) [.int .u8 ((wrap64 (48 + (Int.tmod a0 10))) % 256)] from rfl) (Reps.none _ _)))
          intro v129 w9 ho10 hb hg_ hnew_
          clear hg_ hnew_
          (first | rw [← Ny128.out] at ho10 | (simp only [Int.reduceToNat] at ho10; rw [← Ny128.out] at ho10))
          have n0_ := Aside0.mk (Kd.R_lower ho10 (below_size (by repeat (first | (with_reducible first | exact HB.out | apply below_alloc | apply pw_below_drewN | apply below_drew1) | exact HB.out))))
          have n1_ := Aside0.mk (below_step (by repeat (first | (with_reducible first | exact HB.out | apply below_alloc | apply pw_below_drewN | apply below_drew1) | exact HB.out)) hb)
          clear HB
          have HO130 := n0_
          have HB := n1_
          clear n0_ n1_
          clear hb ho10
          refine hK.out _ _ trivial (fun hHeld => ?_)
          clear hK K
          refine norm_ (a' := ?_) ?_ ?_
          rotate_left
          · show Act.put _ (some 18) _ = _
            simp only [Act.put, List.setIfInBounds_toArray, List.set_cons_zero, List.set_cons_succ, i64_w, i32_w]
            rfl
          refine two_ (i := 2) (j := 8) (Ni := some 13) (Nj := some 19) #[true, true, true, true, true, true, true, true, false, false, false] #[true, true, false, true, true, true, true, true, true, false, false] rfl rfl rfl rfl (two_of HT_.out (by kernel_rfl)) (by decide) (by decide) (fun K hK => ?_) (fun K hK => ?_)
          · skip
            refine goes_ Tryd.func65 (by kernel_rfl) rfl #[.int .i64 (wrap64 (Int.tdiv a0 10))] (by rfl) rfl rfl (by (try simp only [List.map_toArray, List.map_cons, List.map_nil]); first | done | rfl | (simp only [List.length_drop, List.length_take]; rfl)) ?_
            with_reducible refine (ih k (by omega) (wrap64 (Int.tdiv a0 10)) t127 _ A6.out).mono ?_
            rintro e w11 ⟨rfl, hb⟩
            refine ⟨_, rfl, ?_⟩
            have n0_ := Aside0.mk (Kd.R_below (by (with_reducible repeat (first | apply Kd.R_alloc | apply Kd.R_drewN | apply Kd.R_drew)); exact HO130.out) hb)
            have n1_ := Aside0.mk (below_step (by repeat (first | (with_reducible first | exact HB.out | apply below_alloc | apply pw_below_drewN | apply below_drew1) | exact HB.out)) hb)
            clear HO130
            clear HB
            have HO130 := n0_
            have HB := n1_
            clear n0_ n1_
            (try clear hb)
            (try clear hb2)
            (try clear hk)
            (try clear hi)
            refine hK.out _ _ trivial (fun hHeld => ?_)
            clear hK K
            refine norm_ (a' := ?_) ?_ ?_
            rotate_left
            · show Act.put _ (some 13) _ = _
              simp only [Act.put, List.setIfInBounds_toArray, List.set_cons_zero, List.set_cons_succ, i64_w, i32_w]
              rfl
            refine one_ (i := 8) (N := some 19) #[true, true, true, true, true, true, true, true, true, false, false] rfl rfl (one_of HT_.out (by kernel_rfl)) (by decide) (fun K hK => ?_)
            have hcv12 := own_string (P := Tryd.prog) Tryd.underlying64 Tryd.underlying5 Tryd.underlying9 (Kd.own_of_R HO130.out)
            refine value_ (w1 := ?_) (v := ?_) (by rfl) rfl ?_ ?_
            rotate_left 2
            · go_simp
              constructor
              · rfl
              · rfl
            clear hcv12
            refine hK.out _ _ trivial (fun hHeld => ?_)
            clear hK K
            refine norm_ (a' := ?_) ?_ ?_
            rotate_left
            · show Act.put _ (some 19) _ = _
              simp only [Act.put, List.setIfInBounds_toArray, List.set_cons_zero, List.set_cons_succ, i64_w, i32_w]
              rfl
            exact norm_ (by simp only [putAll, Act.put, List.setIfInBounds_toArray, List.set_cons_zero, List.set_cons_succ]) (hCont (v129) _ ⟨(by (with_reducible repeat (first | apply Kd.R_alloc | apply Kd.R_drewN | apply Kd.R_drew)); exact HO130.out), (by repeat (first | (with_reducible first | exact HB.out | apply below_alloc | apply pw_below_drewN | apply below_drew1) | exact HB.out))⟩)
          · skip
            have hcv11 := own_string (P := Tryd.prog) Tryd.underlying64 Tryd.underlying5 Tryd.underlying9 (Kd.own_of_R HO130.out)
            refine value_ (w1 := ?_) (v := ?_) (by rfl) rfl ?_ ?_
            rotate_left 2
            · go_simp
              constructor
              · rfl
              · rfl
            clear hcv11
            refine hK.out _ _ trivial (fun hHeld => ?_)
            clear hK K
            refine norm_ (a' := ?_) ?_ ?_
            rotate_left
            · show Act.put _ (some 19) _ = _
              simp only [Act.put, List.setIfInBounds_toArray, List.set_cons_zero, List.set_cons_succ, i64_w, i32_w]
              rfl
            refine one_ (i := 2) (N := some 13) #[true, true, true, true, true, true, true, true, true, false, false] rfl rfl (one_of HT_.out (by kernel_rfl)) (by decide) (fun K hK => ?_)
            refine goes_ Tryd.func65 (by kernel_rfl) rfl #[.int .i64 (wrap64 (Int.tdiv a0 10))] (by rfl) rfl rfl (by (try simp only [List.map_toArray, List.map_cons, List.map_nil]); first | done | rfl | (simp only [List.length_drop, List.length_take]; rfl)) ?_
            with_reducible refine (ih k (by omega) (wrap64 (Int.tdiv a0 10)) t127 _ A6.out).mono ?_
            rintro e w12 ⟨rfl, hb⟩
            refine ⟨_, rfl, ?_⟩
            have n0_ := Aside0.mk (Kd.R_below (by (with_reducible repeat (first | apply Kd.R_alloc | apply Kd.R_drewN | apply Kd.R_drew)); exact HO130.out) hb)
            have n1_ := Aside0.mk (below_step (by repeat (first | (with_reducible first | exact HB.out | apply below_alloc | apply pw_below_drewN | apply below_drew1) | exact HB.out)) hb)
            clear HO130
            clear HB
            have HO130 := n0_
            have HB := n1_
            clear n0_ n1_
            (try clear hb)
            (try clear hb2)
            (try clear hk)
            (try clear hi)
            refine hK.out _ _ trivial (fun hHeld => ?_)
            clear hK K
            refine norm_ (a' := ?_) ?_ ?_
            rotate_left
            · show Act.put _ (some 13) _ = _
              simp only [Act.put, List.setIfInBounds_toArray, List.set_cons_zero, List.set_cons_succ, i64_w, i32_w]
              rfl
            exact norm_ (by simp only [putAll, Act.put, List.setIfInBounds_toArray, List.set_cons_zero, List.set_cons_succ]) (hCont (v129) _ ⟨(by (with_reducible repeat (first | apply Kd.R_alloc | apply Kd.R_drewN | apply Kd.R_drew)); exact HO130.out), (by repeat (first | (with_reducible first | exact HB.out | apply below_alloc | apply pw_below_drewN | apply below_drew1) | exact HB.out))⟩)
      rintro v129 w13 ⟨h0_, h1_⟩
      have n0_ : Aside0 (Kd.R (Kd.int .u8) 5 w13 w.heap.size (fun _ => True) v129 y128) := ⟨h0_⟩
      have n1_ : Aside0 (Below w.heap.size w w13) := ⟨h1_⟩
      clear HB
      clear h0_ h1_
      have HO130 := n0_
      have HB := n1_
      clear n0_ n1_
      have hHeld := trivial
      refine norm_ (a' := ?_) ?_ ?_
      rotate_left
      · simp only [putAll, Act.put, List.setIfInBounds_toArray, List.set_cons_zero, List.set_cons_succ]
        rfl
      refine pure_ (i := 9) (N := some 20) (v := ?_) (a' := ?_) #[true, true, true, true, true, true, true, true, true, true, false] rfl rfl (any_of HT_.out (by kernel_rfl)) (fun _ _ _ h => h) (Or.inl ⟨by rfl, ?_⟩) ?_ ?_
      rotate_left
      · intro w'
        go_simp
        with_reducible rfl
      rotate_left
      · simp only [Act.put, List.setIfInBounds_toArray, List.set_cons_zero, List.set_cons_succ, i64_w, i32_w]
        rfl
      refine pure_ (i := 10) (N := some 2) (v := ?_) (a' := ?_) #[true, true, true, true, true, true, true, true, true, true, true] rfl rfl (any_of HT_.out (by kernel_rfl)) (fun _ _ _ h => h) (Or.inl ⟨by rfl, ?_⟩) ?_ ?_
      rotate_left
      · intro w'
        go_simp
        with_reducible rfl
      rotate_left
      · simp only [Act.put, List.setIfInBounds_toArray, List.set_cons_zero, List.set_cons_succ, i64_w, i32_w]
        rfl
      refine done_ (done_of HT_.out (by kernel_rfl)) ?_
      try go_wp2
      go_ret
      exact ⟨by first | rfl | (simp [errW_none, errW_some] <;> rfl) | (simp [*, errW_none, errW_some] <;> rfl), by repeat (first | (with_reducible first | exact HB.out | apply below_alloc | apply pw_below_drewN | apply below_drew1) | exact HB.out)⟩
    · rw [if_neg c7] at H
      exact absurd H (by simp)
end Go.Proofs.YthchdlniopmcoaaDoor.Q
namespace Go.Proofs.YthchdlniopmcoaaDoor.Ext
end Go.Proofs.YthchdlniopmcoaaDoor.Ext
namespace Go.Proofs.YthchdlniopmcoaaDoor.Q
open Go.Proofs.YthchdlniopmcoaaDoor.Ext
open Go.RowKit Go.Proofs.YthchdlniopmcoaaDoorW.PrintWords Go.Proofs.YthchdlniopmcoaaDoorW.PrintLast Go.Proofs.YthchdlniopmcoaaDoorW.PrintMore
attribute [local go_sem] max2_int min2_int max_two min_two max_three min_three max_four min_four
set_option linter.unusedVariables false
set_option linter.unusedSimpArgs false
def spec_l04Told.l0 : Nat → List (S53) → ByteArray → Int → Option (ByteArray)
  | 0, _, _, _ => none
  | k + 1, x0, x3, x4 => if x4 < (x0.length : Int) then (if 0 ≤ x4 then ((spec_Decimal.f k (wrap64 ((rd_T53 x0 x4).f1))).bind fun t132 => (if t132.size + 1 ≤ 9223372036854775807 then (if (t132 ++ (⟨#[58]⟩ : ByteArray)).size + ((rd_T53 x0 x4).f0).size ≤ 9223372036854775807 then (if ((t132 ++ (⟨#[58]⟩ : ByteArray)) ++ ((rd_T53 x0 x4).f0)).size + 1 ≤ 9223372036854775807 then ((spec_Decimal.f k (wrap64 ((rd_T53 x0 x4).f2))).bind fun t135 => (if (((t132 ++ (⟨#[58]⟩ : ByteArray)) ++ ((rd_T53 x0 x4).f0)) ++ (⟨#[58]⟩ : ByteArray)).size + t135.size ≤ 9223372036854775807 then (if ((((t132 ++ (⟨#[58]⟩ : ByteArray)) ++ ((rd_T53 x0 x4).f0)) ++ (⟨#[58]⟩ : ByteArray)) ++ t135).size + 1 ≤ 9223372036854775807 then (if x3.size + (((((t132 ++ (⟨#[58]⟩ : ByteArray)) ++ ((rd_T53 x0 x4).f0)) ++ (⟨#[58]⟩ : ByteArray)) ++ t135) ++ (⟨#[10]⟩ : ByteArray)).size ≤ 9223372036854775807 then (spec_l04Told.l0 k x0 (x3 ++ (((((t132 ++ (⟨#[58]⟩ : ByteArray)) ++ ((rd_T53 x0 x4).f0)) ++ (⟨#[58]⟩ : ByteArray)) ++ t135) ++ (⟨#[10]⟩ : ByteArray))) (wrap64 (x4 + 1))) else (none)) else (none)) else (none))) else (none)) else (none)) else (none))) else (none)) else (some x3)
def spec_l04Told.f (k : Nat) (l0 : List (S53)) : Option (ByteArray) := spec_l04Told.l0 k l0 (⟨#[]⟩ : ByteArray) 0
theorem spec_l04Told.mono_l : ∀ k, (∀ y0 y1 y2, LeO (spec_l04Told.l0 k y0 y1 y2) (spec_l04Told.l0 (k + 1) y0 y1 y2))
  | 0 => fun _ _ _ r h => by simp [spec_l04Told.l0] at h
  | k + 1 => by
    have ih0 := spec_l04Told.mono_l k
    · intro y0 y1 y2
      unfold spec_l04Told.l0
      repeat' first
      | (with_reducible exact ih0 _ _ _)
      | (with_reducible exact spec_Decimal.mono _ _)
      | (with_reducible exact LeO.refl _)
      | (with_reducible exact LeO.none _)
      | (with_reducible refine LeO.ite ?_ ?_)
      | (with_reducible refine LeO.bind ?_ (fun _ => ?_))
      | exact ih0 _ _ _
      | exact spec_Decimal.mono _ _
      | exact LeO.none _
      | refine LeO.ite ?_ ?_
      | refine LeO.bind ?_ (fun _ => ?_)
theorem spec_l04Told.mono : ∀ a0 k, LeO (spec_l04Told.f k a0) (spec_l04Told.f (k + 1) a0) := by
  intro a0 k
  have ih0 := spec_l04Told.mono_l k
  unfold spec_l04Told.f
  repeat' first
      | (with_reducible exact ih0 _ _ _)
      | (with_reducible exact spec_Decimal.mono _ _)
      | (with_reducible exact LeO.refl _)
      | (with_reducible exact LeO.none _)
      | (with_reducible refine LeO.ite ?_ ?_)
      | (with_reducible refine LeO.bind ?_ (fun _ => ?_))
      | exact ih0 _ _ _
      | exact spec_Decimal.mono _ _
      | exact LeO.none _
      | refine LeO.ite ?_ ?_
      | refine LeO.bind ?_ (fun _ => ?_)
def spec_l04Told.T5 : Bool × List (List Nat × List Nat) := (true, [([], []), ([], []), ([], []), ([1, 2], [1, 2]), ([3], [3]), ([4], [4]), ([5], [5]), ([6], [6]), ([7], [7]), ([], []), ([], []), ([9, 10], [9, 10]), ([11], [11]), ([12], [12]), ([8, 13], [8, 13]), ([14], [14]), ([], []), ([], []), ([16, 17], [16, 17]), ([18], [18]), ([19], [19]), ([20], [20]), ([21, 7], [21]), ([15, 22], [15, 22]), ([23], [23]), ([0, 24], [0, 24]), ([25, 22, 0, 1, 2, 3, 4, 5, 6, 7, 8, 9, 10, 11, 12, 13, 14, 15, 16, 17, 18, 19, 20, 21, 22, 23, 24, 25], [0, 25])])
def spec_l04Told.B5 : List Nat := [0, 0, 0, 6, 14, 30, 62, 126, 254, 0, 0, 1536, 3584, 7680, 16382, 32766, 0, 0, 196608, 458752, 983040, 2031616, 4129022, 8388606, 16777214, 33554431, 67108863]
theorem spec_l04Told.tab5 : rtab .any (opsOf Tryd.f40 5) = spec_l04Told.T5 := by kernel_rfl
theorem spec_l04Told.bits5 : waitsOk spec_l04Told.T5.2 spec_l04Told.B5 = true := by kernel_rfl
set_option maxHeartbeats 8000000 in
set_option maxRecDepth 100000 in
theorem spec_l04Told.calls (k : Nat) (A0 : Option Addr) (c0 : Nat) (l0 : List (S53)) (r : ByteArray) (w : World) (hr0 : Kd.C k53 w A0 l0.length l0) (hc0 : l0.length ≤ c0) (h : spec_l04Told.f k l0 = some r) :
    Calls Tryd.prog 40 #[.slice A0 l0.length c0] w fun e w' => e = .returned (.string r) ∧ Below w.heap.size w w' := by
  have HR0 := Aside0.mk hr0
  have HC0 := Aside0.mk hc0
  clear hr0 hc0
  have HB := Aside0.mk (Below.refl w.heap.size w)
  have H : (spec_l04Told.l0 k l0 (⟨#[]⟩ : ByteArray) 0) = some r := h
  clear h
  have H' := Aside0.mk H
  clear H
  go_enter Tryd.func40, Tryd.ntmps40
  go_wp2
  go_loopg [3, 4] k (fun kq v3 v4 w' => ∃ (x3_1 : ByteArray) (x4_1 : Int), v3 = .string x3_1 ∧ v4 = .int .i64 x4_1 ∧ Aside0 (spec_l04Told.l0 kq l0 x3_1 x4_1 = some r) ∧ Aside0 (kq ≤ k) ∧ Aside0 (Below w.heap.size w w'))
  case atStart => exact ⟨((⟨#[]⟩ : ByteArray)), (0), (by first | rfl | (simp; done) | (simp [*]; done)), (by first | rfl | (simp; done) | (simp [*]; done)), H', ⟨Nat.le_refl _⟩, ⟨by repeat (first | (with_reducible first | exact HB.out | apply below_alloc | apply pw_below_drewN | apply below_drew1) | exact HB.out)⟩⟩
  case round =>
    clear H'
    obtain ⟨x3_1, x4_1, rfl, rfl, HA, HK1, HB⟩ := hrel
    cases gk with
    | zero => exact absurd HA.out (by simp [spec_l04Told.l0])
    | succ k1 =>
      have H := HA.out
      clear HA
      simp only [spec_l04Told.l0] at H
      by_cases c2 : x4_1 < (l0.length : Int)
      · rw [if_pos c2] at H
        have c2b0 : decide (x4_1 < (l0.length : Int)) = true := decide_eq_true c2
        clear c2
        by_cases c3 : 0 ≤ x4_1
        · rw [if_pos c3] at H
          have c3b0 : decide (0 ≤ x4_1) = true := decide_eq_true c3
          clear c3
          replace H := Option.bind_eq_some_iff.mp H
          obtain ⟨t132, A40, H⟩ := H
          replace H : (if t132.size + 1 ≤ 9223372036854775807 then (if (t132 ++ (⟨#[58]⟩ : ByteArray)).size + ((rd_T53 l0 x4_1).f0).size ≤ 9223372036854775807 then (if ((t132 ++ (⟨#[58]⟩ : ByteArray)) ++ ((rd_T53 l0 x4_1).f0)).size + 1 ≤ 9223372036854775807 then ((spec_Decimal.f k1 (wrap64 ((rd_T53 l0 x4_1).f2))).bind fun t135 => (if (((t132 ++ (⟨#[58]⟩ : ByteArray)) ++ ((rd_T53 l0 x4_1).f0)) ++ (⟨#[58]⟩ : ByteArray)).size + t135.size ≤ 9223372036854775807 then (if ((((t132 ++ (⟨#[58]⟩ : ByteArray)) ++ ((rd_T53 l0 x4_1).f0)) ++ (⟨#[58]⟩ : ByteArray)) ++ t135).size + 1 ≤ 9223372036854775807 then (if x3_1.size + (((((t132 ++ (⟨#[58]⟩ : ByteArray)) ++ ((rd_T53 l0 x4_1).f0)) ++ (⟨#[58]⟩ : ByteArray)) ++ t135) ++ (⟨#[10]⟩ : ByteArray)).size ≤ 9223372036854775807 then (spec_l04Told.l0 k1 l0 (x3_1 ++ (((((t132 ++ (⟨#[58]⟩ : ByteArray)) ++ ((rd_T53 l0 x4_1).f0)) ++ (⟨#[58]⟩ : ByteArray)) ++ t135) ++ (⟨#[10]⟩ : ByteArray))) (wrap64 (x4_1 + 1))) else (none)) else (none)) else (none))) else (none)) else (none)) else (none)) = some r := H
          have A4 := Aside0.mk A40
          clear A40
          by_cases c5 : t132.size + 1 ≤ 9223372036854775807
          · rw [if_pos c5] at H
            have c5b0 := eq_true c5
            have c5b1 : decide (t132.size + 1 ≤ 9223372036854775807) = true := decide_eq_true c5
            try have c5b2 : (9223372036854775807 < t132.size + 1) = False := eq_false (Nat.not_lt.2 c5)
            by_cases c6 : (t132 ++ (⟨#[58]⟩ : ByteArray)).size + ((rd_T53 l0 x4_1).f0).size ≤ 9223372036854775807
            · rw [if_pos c6] at H
              have c6b0 := eq_true c6
              have c6b1 : decide ((t132 ++ (⟨#[58]⟩ : ByteArray)).size + ((rd_T53 l0 x4_1).f0).size ≤ 9223372036854775807) = true := decide_eq_true c6
              try have c6b2 : (9223372036854775807 < (t132 ++ (⟨#[58]⟩ : ByteArray)).size + ((rd_T53 l0 x4_1).f0).size) = False := eq_false (Nat.not_lt.2 c6)
              try (have c6b3 := c6b2; simp only [ByteArray.size_append, show (⟨#[58]⟩ : ByteArray).size = 1 from rfl] at c6b3)
              by_cases c7 : ((t132 ++ (⟨#[58]⟩ : ByteArray)) ++ ((rd_T53 l0 x4_1).f0)).size + 1 ≤ 9223372036854775807
              · rw [if_pos c7] at H
                have c7b0 := eq_true c7
                have c7b1 : decide (((t132 ++ (⟨#[58]⟩ : ByteArray)) ++ ((rd_T53 l0 x4_1).f0)).size + 1 ≤ 9223372036854775807) = true := decide_eq_true c7
                try have c7b2 : (9223372036854775807 < ((t132 ++ (⟨#[58]⟩ : ByteArray)) ++ ((rd_T53 l0 x4_1).f0)).size + 1) = False := eq_false (Nat.not_lt.2 c7)
                try (have c7b3 := c7b2; simp only [ByteArray.size_append, show (⟨#[58]⟩ : ByteArray).size = 1 from rfl] at c7b3)
                replace H := Option.bind_eq_some_iff.mp H
                obtain ⟨t135, A80, H⟩ := H
                replace H : (if (((t132 ++ (⟨#[58]⟩ : ByteArray)) ++ ((rd_T53 l0 x4_1).f0)) ++ (⟨#[58]⟩ : ByteArray)).size + t135.size ≤ 9223372036854775807 then (if ((((t132 ++ (⟨#[58]⟩ : ByteArray)) ++ ((rd_T53 l0 x4_1).f0)) ++ (⟨#[58]⟩ : ByteArray)) ++ t135).size + 1 ≤ 9223372036854775807 then (if x3_1.size + (((((t132 ++ (⟨#[58]⟩ : ByteArray)) ++ ((rd_T53 l0 x4_1).f0)) ++ (⟨#[58]⟩ : ByteArray)) ++ t135) ++ (⟨#[10]⟩ : ByteArray)).size ≤ 9223372036854775807 then (spec_l04Told.l0 k1 l0 (x3_1 ++ (((((t132 ++ (⟨#[58]⟩ : ByteArray)) ++ ((rd_T53 l0 x4_1).f0)) ++ (⟨#[58]⟩ : ByteArray)) ++ t135) ++ (⟨#[10]⟩ : ByteArray))) (wrap64 (x4_1 + 1))) else (none)) else (none)) else (none)) = some r := H
                have A8 := Aside0.mk A80
                clear A80
                by_cases c9 : (((t132 ++ (⟨#[58]⟩ : ByteArray)) ++ ((rd_T53 l0 x4_1).f0)) ++ (⟨#[58]⟩ : ByteArray)).size + t135.size ≤ 9223372036854775807
                · rw [if_pos c9] at H
                  have c9b0 := eq_true c9
                  have c9b1 : decide ((((t132 ++ (⟨#[58]⟩ : ByteArray)) ++ ((rd_T53 l0 x4_1).f0)) ++ (⟨#[58]⟩ : ByteArray)).size + t135.size ≤ 9223372036854775807) = true := decide_eq_true c9
                  try have c9b2 : (9223372036854775807 < (((t132 ++ (⟨#[58]⟩ : ByteArray)) ++ ((rd_T53 l0 x4_1).f0)) ++ (⟨#[58]⟩ : ByteArray)).size + t135.size) = False := eq_false (Nat.not_lt.2 c9)
                  try (have c9b3 := c9b2; simp only [ByteArray.size_append, show (⟨#[58]⟩ : ByteArray).size = 1 from rfl] at c9b3)
                  by_cases c10 : ((((t132 ++ (⟨#[58]⟩ : ByteArray)) ++ ((rd_T53 l0 x4_1).f0)) ++ (⟨#[58]⟩ : ByteArray)) ++ t135).size + 1 ≤ 9223372036854775807
                  · rw [if_pos c10] at H
                    have c10b0 := eq_true c10
                    have c10b1 : decide (((((t132 ++ (⟨#[58]⟩ : ByteArray)) ++ ((rd_T53 l0 x4_1).f0)) ++ (⟨#[58]⟩ : ByteArray)) ++ t135).size + 1 ≤ 9223372036854775807) = true := decide_eq_true c10
                    try have c10b2 : (9223372036854775807 < ((((t132 ++ (⟨#[58]⟩ : ByteArray)) ++ ((rd_T53 l0 x4_1).f0)) ++ (⟨#[58]⟩ : ByteArray)) ++ t135).size + 1) = False := eq_false (Nat.not_lt.2 c10)
                    try (have c10b3 := c10b2; simp only [ByteArray.size_append, show (⟨#[58]⟩ : ByteArray).size = 1 from rfl] at c10b3)
                    by_cases c11 : x3_1.size + (((((t132 ++ (⟨#[58]⟩ : ByteArray)) ++ ((rd_T53 l0 x4_1).f0)) ++ (⟨#[58]⟩ : ByteArray)) ++ t135) ++ (⟨#[10]⟩ : ByteArray)).size ≤ 9223372036854775807
                    · rw [if_pos c11] at H
                      have c11b0 := eq_true c11
                      have c11b1 : decide (x3_1.size + (((((t132 ++ (⟨#[58]⟩ : ByteArray)) ++ ((rd_T53 l0 x4_1).f0)) ++ (⟨#[58]⟩ : ByteArray)) ++ t135) ++ (⟨#[10]⟩ : ByteArray)).size ≤ 9223372036854775807) = true := decide_eq_true c11
                      try have c11b2 : (9223372036854775807 < x3_1.size + (((((t132 ++ (⟨#[58]⟩ : ByteArray)) ++ ((rd_T53 l0 x4_1).f0)) ++ (⟨#[58]⟩ : ByteArray)) ++ t135) ++ (⟨#[10]⟩ : ByteArray)).size) = False := eq_false (Nat.not_lt.2 c11)
                      try (have c11b3 := c11b2; simp only [ByteArray.size_append, show (⟨#[10]⟩ : ByteArray).size = 1 from rfl, show (⟨#[58]⟩ : ByteArray).size = 1 from rfl] at c11b3)
                      have H' := Aside0.mk H
                      clear H
                      try go_wp2
                      have n0_ := Aside0.mk (below_drew1 HB.out)
                      clear HB
                      have HB := n0_
                      clear n0_
                      have p131 : 0 ≤ (x4_1 : Int) := of_decide_eq_true (by first | (with_reducible assumption) | assumption)
                      have q131 : x4_1 < (l0.length : Int) := of_decide_eq_true (by first | (with_reducible assumption) | assumption)
                      obtain ⟨ad131, e131, hx131_0, hx131_1, hx131_2⟩ := at_T53 HR0.out x4_1 p131 q131
                      have hw131_2 := hx131_2
                      have hw131_1 := hx131_1
                      have hw131_0 := hx131_0
                      cases e131
                      replace hx131_0 := (HB.out.cell (World.block_lt_of_cell? w _ hx131_0)).trans hx131_0
                      replace hx131_1 := (HB.out.cell (World.block_lt_of_cell? w _ hx131_1)).trans hx131_1
                      replace hx131_2 := (HB.out.cell (World.block_lt_of_cell? w _ hx131_2)).trans hx131_2
                      replace p131 := eq_true p131
                      replace q131 := eq_true q131
                      have p133 : 0 ≤ (x4_1 : Int) := of_decide_eq_true (by first | (with_reducible assumption) | assumption)
                      have q133 : x4_1 < (l0.length : Int) := of_decide_eq_true (by first | (with_reducible assumption) | assumption)
                      obtain ⟨ad133, e133, hx133_0, hx133_1, hx133_2⟩ := at_T53 HR0.out x4_1 p133 q133
                      have hw133_2 := hx133_2
                      have hw133_1 := hx133_1
                      have hw133_0 := hx133_0
                      obtain rfl : ad131 = ad133 := (by injection e133)
                      replace hx133_0 := (HB.out.cell (World.block_lt_of_cell? w _ hx133_0)).trans hx133_0
                      replace hx133_1 := (HB.out.cell (World.block_lt_of_cell? w _ hx133_1)).trans hx133_1
                      replace hx133_2 := (HB.out.cell (World.block_lt_of_cell? w _ hx133_2)).trans hx133_2
                      replace p133 := eq_true p133
                      replace q133 := eq_true q133
                      have p134 : 0 ≤ (x4_1 : Int) := of_decide_eq_true (by first | (with_reducible assumption) | assumption)
                      have q134 : x4_1 < (l0.length : Int) := of_decide_eq_true (by first | (with_reducible assumption) | assumption)
                      obtain ⟨ad134, e134, hx134_0, hx134_1, hx134_2⟩ := at_T53 HR0.out x4_1 p134 q134
                      have hw134_2 := hx134_2
                      have hw134_1 := hx134_1
                      have hw134_0 := hx134_0
                      obtain rfl : ad131 = ad134 := (by injection e134)
                      replace hx134_0 := (HB.out.cell (World.block_lt_of_cell? w _ hx134_0)).trans hx134_0
                      replace hx134_1 := (HB.out.cell (World.block_lt_of_cell? w _ hx134_1)).trans hx134_1
                      replace hx134_2 := (HB.out.cell (World.block_lt_of_cell? w _ hx134_2)).trans hx134_2
                      replace p134 := eq_true p134
                      replace q134 := eq_true q134
                      refine start_ (n := 27) (S := fun w' => w'.cell? (ad131.add ((x4_1).toNat * 3)) = some (.string ((rd_T53 l0 x4_1).f0)) ∧ w'.cell? ⟨(ad131.add ((x4_1).toNat * 3)).block, (ad131.add ((x4_1).toNat * 3)).off + 1, none⟩ = some (.int .u8 ((rd_T53 l0 x4_1).f1)) ∧ w'.cell? ⟨(ad131.add ((x4_1).toNat * 3)).block, (ad131.add ((x4_1).toNat * 3)).off + 2, none⟩ = some (.int .u8 ((rd_T53 l0 x4_1).f2)) ∧ w'.cell? (ad131.add ((x4_1).toNat * 3)) = some (.string ((rd_T53 l0 x4_1).f0)) ∧ w'.cell? ⟨(ad131.add ((x4_1).toNat * 3)).block, (ad131.add ((x4_1).toNat * 3)).off + 1, none⟩ = some (.int .u8 ((rd_T53 l0 x4_1).f1)) ∧ w'.cell? ⟨(ad131.add ((x4_1).toNat * 3)).block, (ad131.add ((x4_1).toNat * 3)).off + 2, none⟩ = some (.int .u8 ((rd_T53 l0 x4_1).f2)) ∧ w'.cell? (ad131.add ((x4_1).toNat * 3)) = some (.string ((rd_T53 l0 x4_1).f0)) ∧ w'.cell? ⟨(ad131.add ((x4_1).toNat * 3)).block, (ad131.add ((x4_1).toNat * 3)).off + 1, none⟩ = some (.int .u8 ((rd_T53 l0 x4_1).f1)) ∧ w'.cell? ⟨(ad131.add ((x4_1).toNat * 3)).block, (ad131.add ((x4_1).toNat * 3)).off + 2, none⟩ = some (.int .u8 ((rd_T53 l0 x4_1).f2))) (ds := []) #[false, false, false, false, false, false, false, false, false, false, false, false, false, false, false, false, false, false, false, false, false, false, false, false, false, false, false] (by kernel_rfl) rfl rfl ⟨((HB.out.cell (World.block_lt_of_cell? w _ hw131_0)).trans hw131_0), ((HB.out.cell (World.block_lt_of_cell? w _ hw131_1)).trans hw131_1), ((HB.out.cell (World.block_lt_of_cell? w _ hw131_2)).trans hw131_2), ((HB.out.cell (World.block_lt_of_cell? w _ hw133_0)).trans hw133_0), ((HB.out.cell (World.block_lt_of_cell? w _ hw133_1)).trans hw133_1), ((HB.out.cell (World.block_lt_of_cell? w _ hw133_2)).trans hw133_2), ((HB.out.cell (World.block_lt_of_cell? w _ hw134_0)).trans hw134_0), ((HB.out.cell (World.block_lt_of_cell? w _ hw134_1)).trans hw134_1), ((HB.out.cell (World.block_lt_of_cell? w _ hw134_2)).trans hw134_2)⟩ (fun hHeld => ?_); refine with_tabW spec_l04Told.tab5 spec_l04Told.bits5 (fun HT_ HW_ => ?_)
                      generalize wr.drew = w12 at HB hx131_0 hx131_1 hx131_2 hx133_0 hx133_1 hx133_2 hx134_0 hx134_1 hx134_2 hHeld ⊢
                      refine pure_ (i := 0) (N := some 11) (v := ?_) (a' := ?_) #[true, false, false, false, false, false, false, false, false, false, false, false, false, false, false, false, false, false, false, false, false, false, false, false, false, false, false] rfl rfl (any_of HT_.out (by kernel_rfl)) (fun _ _ _ h => h) (Or.inl ⟨by rfl, ?_⟩) ?_ ?_
                      rotate_left
                      · intro w'
                        go_simp
                        with_reducible rfl
                      rotate_left
                      · simp only [Act.put, List.setIfInBounds_toArray, List.set_cons_zero, List.set_cons_succ, i64_w, i32_w]
                        rfl
                      refine pure_ (i := 1) (N := some 12) (v := ?_) (a' := ?_) #[true, true, false, false, false, false, false, false, false, false, false, false, false, false, false, false, false, false, false, false, false, false, false, false, false, false, false] rfl rfl (any_of HT_.out (by kernel_rfl)) (fun _ _ _ h => h) (Or.inl ⟨by rfl, ?_⟩) ?_ ?_
                      rotate_left
                      · intro w'
                        go_simp
                        with_reducible rfl
                      rotate_left
                      · simp only [Act.put, List.setIfInBounds_toArray, List.set_cons_zero, List.set_cons_succ, i64_w, i32_w]
                        rfl
                      refine pure_ (i := 2) (N := some 13) (v := ?_) (a' := ?_) #[true, true, true, false, false, false, false, false, false, false, false, false, false, false, false, false, false, false, false, false, false, false, false, false, false, false, false] rfl rfl (any_of HT_.out (by kernel_rfl)) (fun _ _ _ h => h) (Or.inl ⟨by rfl, ?_⟩) ?_ ?_
                      rotate_left
                      · intro w'
                        go_simp
                        with_reducible rfl
                      rotate_left
                      · simp only [Act.put, List.setIfInBounds_toArray, List.set_cons_zero, List.set_cons_succ, i64_w, i32_w]
                        rfl
                      refine pure_ (i := 3) (N := some 14) (v := ?_) (a' := ?_) #[true, true, true, true, false, false, false, false, false, false, false, false, false, false, false, false, false, false, false, false, false, false, false, false, false, false, false] rfl rfl (any_of HT_.out (by kernel_rfl)) (fun _ _ _ h => h) (Or.inl ⟨by rfl, ?_⟩) ?_ ?_
                      rotate_left
                      · intro w'
                        go_simp
                        with_reducible rfl
                      rotate_left
                      · simp only [Act.put, List.setIfInBounds_toArray, List.set_cons_zero, List.set_cons_succ, i64_w, i32_w]
                        rfl
                      refine pure_ (i := 4) (N := some 15) (v := ?_) (a' := ?_) #[true, true, true, true, true, false, false, false, false, false, false, false, false, false, false, false, false, false, false, false, false, false, false, false, false, false, false] rfl rfl (any_of HT_.out (by kernel_rfl)) (fun _ _ _ h => h) (Or.inl ⟨by rfl, ?_⟩) ?_ ?_
                      rotate_left
                      · intro w'
                        go_simp
                        with_reducible rfl
                      rotate_left
                      · simp only [Act.put, List.setIfInBounds_toArray, List.set_cons_zero, List.set_cons_succ, i64_w, i32_w]
                        rfl
                      refine pure_ (i := 9) (N := some 20) (v := ?_) (a' := ?_) #[true, true, true, true, true, false, false, false, false, true, false, false, false, false, false, false, false, false, false, false, false, false, false, false, false, false, false] rfl rfl (any_of HT_.out (by kernel_rfl)) (fun _ _ _ h => h) (Or.inl ⟨by rfl, ?_⟩) ?_ ?_
                      rotate_left
                      · intro w'
                        go_simp
                        with_reducible rfl
                      rotate_left
                      · simp only [Act.put, List.setIfInBounds_toArray, List.set_cons_zero, List.set_cons_succ, i64_w, i32_w]
                        rfl
                      refine pure_ (i := 10) (N := some 21) (v := ?_) (a' := ?_) #[true, true, true, true, true, false, false, false, false, true, true, false, false, false, false, false, false, false, false, false, false, false, false, false, false, false, false] rfl rfl (any_of HT_.out (by kernel_rfl)) (fun _ _ _ h => h) (Or.inl ⟨by rfl, ?_⟩) ?_ ?_
                      rotate_left
                      · intro w'
                        go_simp
                        with_reducible rfl
                      rotate_left
                      · simp only [Act.put, List.setIfInBounds_toArray, List.set_cons_zero, List.set_cons_succ, i64_w, i32_w]
                        rfl
                      refine pure_ (i := 11) (N := some 22) (v := ?_) (a' := ?_) #[true, true, true, true, true, false, false, false, false, true, true, true, false, false, false, false, false, false, false, false, false, false, false, false, false, false, false] rfl rfl (any_of HT_.out (by kernel_rfl)) (fun _ _ _ h => h) (Or.inl ⟨by rfl, ?_⟩) ?_ ?_
                      rotate_left
                      · intro w'
                        go_simp
                        with_reducible rfl
                      rotate_left
                      · simp only [Act.put, List.setIfInBounds_toArray, List.set_cons_zero, List.set_cons_succ, i64_w, i32_w]
                        rfl
                      refine pure_ (i := 12) (N := some 23) (v := ?_) (a' := ?_) #[true, true, true, true, true, false, false, false, false, true, true, true, true, false, false, false, false, false, false, false, false, false, false, false, false, false, false] rfl rfl (any_of HT_.out (by kernel_rfl)) (fun _ _ _ h => h) (Or.inl ⟨by rfl, ?_⟩) ?_ ?_
                      rotate_left
                      · intro w'
                        go_simp
                        with_reducible rfl
                      rotate_left
                      · simp only [Act.put, List.setIfInBounds_toArray, List.set_cons_zero, List.set_cons_succ, i64_w, i32_w]
                        rfl
                      refine pure_ (i := 16) (N := some 27) (v := ?_) (a' := ?_) #[true, true, true, true, true, false, false, false, false, true, true, true, true, false, false, false, true, false, false, false, false, false, false, false, false, false, false] rfl rfl (any_of HT_.out (by kernel_rfl)) (fun _ _ _ h => h) (Or.inl ⟨by rfl, ?_⟩) ?_ ?_
                      rotate_left
                      · intro w'
                        go_simp
                        with_reducible rfl
                      rotate_left
                      · simp only [Act.put, List.setIfInBounds_toArray, List.set_cons_zero, List.set_cons_succ, i64_w, i32_w]
                        rfl
                      refine pure_ (i := 17) (N := some 28) (v := ?_) (a' := ?_) #[true, true, true, true, true, false, false, false, false, true, true, true, true, false, false, false, true, true, false, false, false, false, false, false, false, false, false] rfl rfl (any_of HT_.out (by kernel_rfl)) (fun _ _ _ h => h) (Or.inl ⟨by rfl, ?_⟩) ?_ ?_
                      rotate_left
                      · intro w'
                        go_simp
                        with_reducible rfl
                      rotate_left
                      · simp only [Act.put, List.setIfInBounds_toArray, List.set_cons_zero, List.set_cons_succ, i64_w, i32_w]
                        rfl
                      refine pure_ (i := 18) (N := some 29) (v := ?_) (a' := ?_) #[true, true, true, true, true, false, false, false, false, true, true, true, true, false, false, false, true, true, true, false, false, false, false, false, false, false, false] rfl rfl (any_of HT_.out (by kernel_rfl)) (fun _ _ _ h => h) (Or.inl ⟨by rfl, ?_⟩) ?_ ?_
                      rotate_left
                      · intro w'
                        go_simp
                        with_reducible rfl
                      rotate_left
                      · simp only [Act.put, List.setIfInBounds_toArray, List.set_cons_zero, List.set_cons_succ, i64_w, i32_w]
                        rfl
                      refine pure_ (i := 19) (N := some 30) (v := ?_) (a' := ?_) #[true, true, true, true, true, false, false, false, false, true, true, true, true, false, false, false, true, true, true, true, false, false, false, false, false, false, false] rfl rfl (any_of HT_.out (by kernel_rfl)) (fun _ _ _ h => h) (Or.inl ⟨by rfl, ?_⟩) ?_ ?_
                      rotate_left
                      · intro w'
                        go_simp
                        with_reducible rfl
                      rotate_left
                      · simp only [Act.put, List.setIfInBounds_toArray, List.set_cons_zero, List.set_cons_succ, i64_w, i32_w]
                        rfl
                      refine take_ (i := 5) (N := some 16) (v := ?_) (a' := ?_) #[true, true, true, true, true, true, false, false, false, true, true, true, true, false, false, false, true, true, true, true, false, false, false, false, false, false, false] rfl rfl (take_ofW HT_.out HW_.out (by kernel_rfl)) (fun _ _ _ h => h) (Or.inl ⟨by rfl, ?_⟩) hHeld ?_ ?_
                      rotate_left
                      · rintro w' ⟨s0, s1, s2, s3, s4, s5, s6, s7, s8⟩
                        go_simp
                        with_reducible rfl
                      rotate_left
                      · simp only [Act.put, List.setIfInBounds_toArray, List.set_cons_zero, List.set_cons_succ, i64_w, i32_w]
                        rfl
                      refine pure_ (i := 6) (N := some 17) (v := ?_) (a' := ?_) #[true, true, true, true, true, true, true, false, false, true, true, true, true, false, false, false, true, true, true, true, false, false, false, false, false, false, false] rfl rfl (any_of HT_.out (by kernel_rfl)) (fun _ _ _ h => h) (Or.inl ⟨by rfl, ?_⟩) ?_ ?_
                      rotate_left
                      · intro w'
                        go_simp
                        with_reducible rfl
                      rotate_left
                      · simp only [Act.put, List.setIfInBounds_toArray, List.set_cons_zero, List.set_cons_succ, i64_w, i32_w]
                        rfl
                      refine take_ (i := 13) (N := some 24) (v := ?_) (a' := ?_) #[true, true, true, true, true, true, true, false, false, true, true, true, true, true, false, false, true, true, true, true, false, false, false, false, false, false, false] rfl rfl (take_ofW HT_.out HW_.out (by kernel_rfl)) (fun _ _ _ h => h) (Or.inl ⟨by rfl, ?_⟩) hHeld ?_ ?_
                      rotate_left
                      · rintro w' ⟨s0, s1, s2, s3, s4, s5, s6, s7, s8⟩
                        go_simp
                        with_reducible rfl
                      rotate_left
                      · simp only [Act.put, List.setIfInBounds_toArray, List.set_cons_zero, List.set_cons_succ, i64_w, i32_w]
                        rfl
                      refine take_ (i := 20) (N := some 31) (v := ?_) (a' := ?_) #[true, true, true, true, true, true, true, false, false, true, true, true, true, true, false, false, true, true, true, true, true, false, false, false, false, false, false] rfl rfl (take_ofW HT_.out HW_.out (by kernel_rfl)) (fun _ _ _ h => h) (Or.inl ⟨by rfl, ?_⟩) hHeld ?_ ?_
                      rotate_left
                      · rintro w' ⟨s0, s1, s2, s3, s4, s5, s6, s7, s8⟩
                        go_simp
                        with_reducible rfl
                      rotate_left
                      · simp only [Act.put, List.setIfInBounds_toArray, List.set_cons_zero, List.set_cons_succ, i64_w, i32_w]
                        rfl
                      refine pure_ (i := 21) (N := some 32) (v := ?_) (a' := ?_) #[true, true, true, true, true, true, true, false, false, true, true, true, true, true, false, false, true, true, true, true, true, true, false, false, false, false, false] rfl rfl (any_of HT_.out (by kernel_rfl)) (fun _ _ _ h => h) (Or.inl ⟨by rfl, ?_⟩) ?_ ?_
                      rotate_left
                      · intro w'
                        go_simp
                        with_reducible rfl
                      rotate_left
                      · simp only [Act.put, List.setIfInBounds_toArray, List.set_cons_zero, List.set_cons_succ, i64_w, i32_w]
                        rfl
                      refine one_ (i := 7) (N := some 18) #[true, true, true, true, true, true, true, true, false, true, true, true, true, true, false, false, true, true, true, true, true, true, false, false, false, false, false] rfl rfl (one_of HT_.out (by kernel_rfl)) (by decide) (fun K hK => ?_)
                      refine goes_ Tryd.func65 (by kernel_rfl) rfl #[.int .i64 (wrap64 ((rd_T53 l0 x4_1).f1))] (by rfl) rfl rfl (by (try simp only [List.map_toArray, List.map_cons, List.map_nil]); first | done | rfl | (simp only [List.length_drop, List.length_take]; rfl)) ?_
                      with_reducible refine (spec_Decimal.calls k1 (wrap64 ((rd_T53 l0 x4_1).f1)) t132 _ A4.out).mono ?_
                      rintro e w13 ⟨rfl, hb⟩
                      refine ⟨_, rfl, ?_⟩
                      have n0_ := Aside0.mk (below_step (by repeat (first | (with_reducible first | exact HB.out | apply below_alloc | apply pw_below_drewN | apply below_drew1) | exact HB.out)) hb)
                      clear HB
                      have HB := n0_
                      clear n0_
                      (try clear hb)
                      (try clear hb2)
                      (try clear hk)
                      (try clear hi)
                      refine hK.out _ _ ⟨((HB.out.cell (World.block_lt_of_cell? w _ hw131_0)).trans hw131_0), ((HB.out.cell (World.block_lt_of_cell? w _ hw131_1)).trans hw131_1), ((HB.out.cell (World.block_lt_of_cell? w _ hw131_2)).trans hw131_2), ((HB.out.cell (World.block_lt_of_cell? w _ hw133_0)).trans hw133_0), ((HB.out.cell (World.block_lt_of_cell? w _ hw133_1)).trans hw133_1), ((HB.out.cell (World.block_lt_of_cell? w _ hw133_2)).trans hw133_2), ((HB.out.cell (World.block_lt_of_cell? w _ hw134_0)).trans hw134_0), ((HB.out.cell (World.block_lt_of_cell? w _ hw134_1)).trans hw134_1), ((HB.out.cell (World.block_lt_of_cell? w _ hw134_2)).trans hw134_2)⟩ (fun hHeld => ?_)
                      clear hK K
                      refine norm_ (a' := ?_) ?_ ?_
                      rotate_left
                      · show Act.put _ (some 18) _ = _
                        simp only [Act.put, List.setIfInBounds_toArray, List.set_cons_zero, List.set_cons_succ, i64_w, i32_w]
                        rfl
                      refine pure_ (i := 8) (N := some 19) (v := ?_) (a' := ?_) #[true, true, true, true, true, true, true, true, true, true, true, true, true, true, false, false, true, true, true, true, true, true, false, false, false, false, false] rfl rfl (any_of HT_.out (by kernel_rfl)) (fun _ _ _ h => h) (Or.inl ⟨by rfl, ?_⟩) ?_ ?_
                      rotate_left
                      · intro w'
                        go_simp
                        with_reducible rfl
                      rotate_left
                      · simp only [Act.put, List.setIfInBounds_toArray, List.set_cons_zero, List.set_cons_succ, i64_w, i32_w]
                        rfl
                      refine pure_ (i := 14) (N := some 25) (v := ?_) (a' := ?_) #[true, true, true, true, true, true, true, true, true, true, true, true, true, true, true, false, true, true, true, true, true, true, false, false, false, false, false] rfl rfl (any_of HT_.out (by kernel_rfl)) (fun _ _ _ h => h) (Or.inl ⟨by rfl, ?_⟩) ?_ ?_
                      rotate_left
                      · intro w'
                        go_simp
                        with_reducible rfl
                      rotate_left
                      · simp only [Act.put, List.setIfInBounds_toArray, List.set_cons_zero, List.set_cons_succ, i64_w, i32_w]
                        rfl
                      refine pure_ (i := 15) (N := some 26) (v := ?_) (a' := ?_) #[true, true, true, true, true, true, true, true, true, true, true, true, true, true, true, true, true, true, true, true, true, true, false, false, false, false, false] rfl rfl (any_of HT_.out (by kernel_rfl)) (fun _ _ _ h => h) (Or.inl ⟨by rfl, ?_⟩) ?_ ?_
                      rotate_left
                      · intro w'
                        go_simp
                        with_reducible rfl
                      rotate_left
                      · simp only [Act.put, List.setIfInBounds_toArray, List.set_cons_zero, List.set_cons_succ, i64_w, i32_w]
                        rfl
                      refine one_ (i := 22) (N := some 33) #[true, true, true, true, true, true, true, true, true, true, true, true, true, true, true, true, true, true, true, true, true, true, true, false, false, false, false] rfl rfl (one_of HT_.out (by kernel_rfl)) (by decide) (fun K hK => ?_)
                      refine goes_ Tryd.func65 (by kernel_rfl) rfl #[.int .i64 (wrap64 ((rd_T53 l0 x4_1).f2))] (by rfl) rfl rfl (by (try simp only [List.map_toArray, List.map_cons, List.map_nil]); first | done | rfl | (simp only [List.length_drop, List.length_take]; rfl)) ?_
                      with_reducible refine (spec_Decimal.calls k1 (wrap64 ((rd_T53 l0 x4_1).f2)) t135 _ A8.out).mono ?_
                      rintro e w14 ⟨rfl, hb⟩
                      refine ⟨_, rfl, ?_⟩
                      have n0_ := Aside0.mk (below_step (by repeat (first | (with_reducible first | exact HB.out | apply below_alloc | apply pw_below_drewN | apply below_drew1) | exact HB.out)) hb)
                      clear HB
                      have HB := n0_
                      clear n0_
                      (try clear hb)
                      (try clear hb2)
                      (try clear hk)
                      (try clear hi)
                      refine hK.out _ _ ⟨((HB.out.cell (World.block_lt_of_cell? w _ hw131_0)).trans hw131_0), ((HB.out.cell (World.block_lt_of_cell? w _ hw131_1)).trans hw131_1), ((HB.out.cell (World.block_lt_of_cell? w _ hw131_2)).trans hw131_2), ((HB.out.cell (World.block_lt_of_cell? w _ hw133_0)).trans hw133_0), ((HB.out.cell (World.block_lt_of_cell? w _ hw133_1)).trans hw133_1), ((HB.out.cell (World.block_lt_of_cell? w _ hw133_2)).trans hw133_2), ((HB.out.cell (World.block_lt_of_cell? w _ hw134_0)).trans hw134_0), ((HB.out.cell (World.block_lt_of_cell? w _ hw134_1)).trans hw134_1), ((HB.out.cell (World.block_lt_of_cell? w _ hw134_2)).trans hw134_2)⟩ (fun hHeld => ?_)
                      clear hK K
                      refine norm_ (a' := ?_) ?_ ?_
                      rotate_left
                      · show Act.put _ (some 33) _ = _
                        simp only [Act.put, List.setIfInBounds_toArray, List.set_cons_zero, List.set_cons_succ, i64_w, i32_w]
                        rfl
                      refine pure_ (i := 23) (N := some 34) (v := ?_) (a' := ?_) #[true, true, true, true, true, true, true, true, true, true, true, true, true, true, true, true, true, true, true, true, true, true, true, true, false, false, false] rfl rfl (any_of HT_.out (by kernel_rfl)) (fun _ _ _ h => h) (Or.inl ⟨by rfl, ?_⟩) ?_ ?_
                      rotate_left
                      · intro w'
                        go_simp
                        with_reducible rfl
                      rotate_left
                      · simp only [Act.put, List.setIfInBounds_toArray, List.set_cons_zero, List.set_cons_succ, i64_w, i32_w]
                        rfl
                      refine pure_ (i := 24) (N := some 35) (v := ?_) (a' := ?_) #[true, true, true, true, true, true, true, true, true, true, true, true, true, true, true, true, true, true, true, true, true, true, true, true, true, false, false] rfl rfl (any_of HT_.out (by kernel_rfl)) (fun _ _ _ h => h) (Or.inl ⟨by rfl, ?_⟩) ?_ ?_
                      rotate_left
                      · intro w'
                        go_simp
                        with_reducible rfl
                      rotate_left
                      · simp only [Act.put, List.setIfInBounds_toArray, List.set_cons_zero, List.set_cons_succ, i64_w, i32_w]
                        rfl
                      refine pure_ (i := 25) (N := some 36) (v := ?_) (a' := ?_) #[true, true, true, true, true, true, true, true, true, true, true, true, true, true, true, true, true, true, true, true, true, true, true, true, true, true, false] rfl rfl (any_of HT_.out (by kernel_rfl)) (fun _ _ _ h => h) (Or.inl ⟨by rfl, ?_⟩) ?_ ?_
                      rotate_left
                      · intro w'
                        go_simp
                        with_reducible rfl
                      rotate_left
                      · simp only [Act.put, List.setIfInBounds_toArray, List.set_cons_zero, List.set_cons_succ, i64_w, i32_w]
                        rfl
                      refine pure_ (i := 26) (N := some 3) (v := ?_) (a' := ?_) #[true, true, true, true, true, true, true, true, true, true, true, true, true, true, true, true, true, true, true, true, true, true, true, true, true, true, true] rfl rfl (any_of HT_.out (by kernel_rfl)) (fun _ _ _ h => h) (Or.inl ⟨by rfl, ?_⟩) ?_ ?_
                      rotate_left
                      · intro w'
                        go_simp
                        with_reducible rfl
                      rotate_left
                      · simp only [Act.put, List.setIfInBounds_toArray, List.set_cons_zero, List.set_cons_succ, i64_w, i32_w]
                        rfl
                      refine done_ (done_of HT_.out (by kernel_rfl)) ?_
                      try go_wp2
                      go_roundg k1
                      case measure => have := HK1.out; omega
                      case rel => exact ⟨(x3_1 ++ (((((t132 ++ (⟨#[58]⟩ : ByteArray)) ++ ((rd_T53 l0 x4_1).f0)) ++ (⟨#[58]⟩ : ByteArray)) ++ t135) ++ (⟨#[10]⟩ : ByteArray))), (wrap64 (x4_1 + 1)), (by first | rfl | (simp; done) | (simp [*]; done)), (by first | rfl | (simp; done) | (simp [*]; done)), H', ⟨by have := HK1.out; omega⟩, ⟨by repeat (first | (with_reducible first | exact HB.out | apply below_alloc | apply pw_below_drewN | apply below_drew1) | exact HB.out)⟩⟩
                    · rw [if_neg c11] at H
                      exact absurd H (by simp)
                  · rw [if_neg c10] at H
                    exact absurd H (by simp)
                · rw [if_neg c9] at H
                  exact absurd H (by simp)
              · rw [if_neg c7] at H
                exact absurd H (by simp)
            · rw [if_neg c6] at H
              exact absurd H (by simp)
          · rw [if_neg c5] at H
            exact absurd H (by simp)
        · rw [if_neg c3] at H
          exact absurd H (by simp)
      · rw [if_neg c2] at H
        have c2b0 : decide (x4_1 < (l0.length : Int)) = false := decide_eq_false c2
        clear c2
        obtain rfl := Option.some.inj H
        go_wp2
        go_ret
        exact ⟨by first | rfl | (simp [errW_none, errW_some] <;> rfl) | (simp [*, errW_none, errW_some] <;> rfl), by repeat (first | (with_reducible first | exact HB.out | apply below_alloc | apply pw_below_drewN | apply below_drew1) | exact HB.out)⟩
def spec_PiecesText.f (k : Nat) (l0 : List (S53)) : Option (ByteArray) := (spec_l04Pieces.f k l0).bind fun t136 => (if t136 = true then ((spec_l04Told.f k l0).bind fun t137 => (some t137)) else (some (⟨#[]⟩ : ByteArray)))
theorem spec_PiecesText.mono : ∀ a0 k, LeO (spec_PiecesText.f k a0) (spec_PiecesText.f (k + 1) a0) := by
  intro a0 k
  unfold spec_PiecesText.f
  repeat' first
      | (with_reducible exact spec_l04Pieces.mono _ _)
      | (with_reducible exact spec_l04Told.mono _ _)
      | (with_reducible exact LeO.refl _)
      | (with_reducible exact LeO.none _)
      | (with_reducible refine LeO.ite ?_ ?_)
      | (with_reducible refine LeO.bind ?_ (fun _ => ?_))
      | exact spec_l04Pieces.mono _ _
      | exact spec_l04Told.mono _ _
      | exact LeO.none _
      | refine LeO.ite ?_ ?_
      | refine LeO.bind ?_ (fun _ => ?_)
set_option maxHeartbeats 8000000 in
set_option maxRecDepth 100000 in
theorem spec_PiecesText.calls (k : Nat) (A0 : Option Addr) (c0 : Nat) (l0 : List (S53)) (r : ByteArray) (w : World) (hr0 : Kd.C k53 w A0 l0.length l0) (hc0 : l0.length ≤ c0) (h : spec_PiecesText.f k l0 = some r) :
    Calls Tryd.prog 19 #[.slice A0 l0.length c0] w fun e w' => e = .returned (.string r) ∧ Below w.heap.size w w' := by
  have HR0 := Aside0.mk hr0
  have HC0 := Aside0.mk hc0
  clear hr0 hc0
  have HB := Aside0.mk (Below.refl w.heap.size w)
  have H : ((spec_l04Pieces.f k l0).bind fun t136 => (if t136 = true then ((spec_l04Told.f k l0).bind fun t137 => (some t137)) else (some (⟨#[]⟩ : ByteArray)))) = some r := h
  clear h
  replace H := Option.bind_eq_some_iff.mp H
  obtain ⟨t136, A20, H⟩ := H
  replace H : (if t136 = true then ((spec_l04Told.f k l0).bind fun t137 => (some t137)) else (some (⟨#[]⟩ : ByteArray))) = some r := H
  have A2 := Aside0.mk A20
  clear A20
  by_cases c3 : t136 = true
  · subst c3
    have H1 : ((spec_l04Told.f k l0).bind fun t137 => (some t137)) = some r := by rw [if_pos rfl] at H; exact H
    clear H
    have H := H1
    clear H1
    replace H := Option.bind_eq_some_iff.mp H
    obtain ⟨t137, A40, H⟩ := H
    replace H : (some t137) = some r := H
    have A4 := Aside0.mk A40
    clear A40
    obtain rfl := Option.some.inj H
    go_enter Tryd.func19, Tryd.ntmps19
    go_wp2_with (first | ((with_reducible refine gate_callee (f := 25) rfl ?_); refine goesL_ (some 4) rfl rfl Tryd.func25 (by kernel_rfl) rfl #[.slice A0 l0.length c0] rfl (by (try simp only [List.map_toArray, List.map_cons, List.map_nil]); first | done | rfl | (simp only [List.length_drop, List.length_take]; rfl)) ?_; (with_reducible refine (spec_l04Pieces.calls k _ _ l0 true _ ?side1 ?side2 A2.out).mono ?_); (case side1 => repeat (first | exact HR0.out | (with_reducible refine Kd.C_alloc ?_ _) | (with_reducible refine Kd.C_drewN ?_ _) | (with_reducible refine Kd.C_drew ?_))); (case side2 => exact HC0.out); rintro e w' ⟨rfl, ⟨nd, rfl⟩⟩; refine ⟨_, rfl, ?_⟩) | ((with_reducible refine gate_callee (f := 40) rfl ?_); refine goesL_ (some 7) rfl rfl Tryd.func40 (by kernel_rfl) rfl #[.slice A0 l0.length c0] rfl (by (try simp only [List.map_toArray, List.map_cons, List.map_nil]); first | done | rfl | (simp only [List.length_drop, List.length_take]; rfl)) ?_; (with_reducible refine (spec_l04Told.calls k _ _ l0 t137 _ ?side1 ?side2 A4.out).mono ?_); (case side1 => repeat (first | exact HR0.out | (with_reducible refine Kd.C_alloc ?_ _) | (with_reducible refine Kd.C_drewN ?_ _) | (with_reducible refine Kd.C_drew ?_))); (case side2 => exact HC0.out); rintro e w5 ⟨rfl, hb⟩; refine ⟨_, rfl, ?_⟩; have n0_ := Aside0.mk (below_step (by repeat (first | (with_reducible first | exact HB.out | apply below_alloc | apply pw_below_drewN | apply below_drew1) | exact HB.out)) hb); clear HB; have HB := n0_; clear n0_; (try clear hb); (try clear hb2); (try clear hk); (try clear hi)))
    go_ret
    exact ⟨by first | rfl | (simp [errW_none, errW_some] <;> rfl) | (simp [*, errW_none, errW_some] <;> rfl), by repeat (first | (with_reducible first | exact HB.out | apply below_alloc | apply pw_below_drewN | apply below_drew1) | exact HB.out)⟩
  · replace c3 := Bool.eq_false_iff.mpr c3
    subst c3
    have H1 : (some (⟨#[]⟩ : ByteArray)) = some r := by rw [if_neg (show ¬ (false = true) by decide)] at H; exact H
    clear H
    have H := H1
    clear H1
    obtain rfl := Option.some.inj H
    go_enter Tryd.func19, Tryd.ntmps19
    go_wp2_with (first | ((with_reducible refine gate_callee (f := 25) rfl ?_); refine goesL_ (some 4) rfl rfl Tryd.func25 (by kernel_rfl) rfl #[.slice A0 l0.length c0] rfl (by (try simp only [List.map_toArray, List.map_cons, List.map_nil]); first | done | rfl | (simp only [List.length_drop, List.length_take]; rfl)) ?_; (with_reducible refine (spec_l04Pieces.calls k _ _ l0 false _ ?side1 ?side2 A2.out).mono ?_); (case side1 => repeat (first | exact HR0.out | (with_reducible refine Kd.C_alloc ?_ _) | (with_reducible refine Kd.C_drewN ?_ _) | (with_reducible refine Kd.C_drew ?_))); (case side2 => exact HC0.out); rintro e w' ⟨rfl, ⟨nd, rfl⟩⟩; refine ⟨_, rfl, ?_⟩))
    go_ret
    exact ⟨by first | rfl | (simp [errW_none, errW_some] <;> rfl) | (simp [*, errW_none, errW_some] <;> rfl), by repeat (first | (with_reducible first | exact HB.out | apply below_alloc | apply pw_below_drewN | apply below_drew1) | exact HB.out)⟩
end Go.Proofs.YthchdlniopmcoaaDoor.Q
namespace Go.Proofs.YthchdlniopmcoaaDoor.Ext
end Go.Proofs.YthchdlniopmcoaaDoor.Ext
namespace Go.Proofs.YthchdlniopmcoaaDoor.Q
open Go.Proofs.YthchdlniopmcoaaDoor.Ext
open Go.RowKit Go.Proofs.YthchdlniopmcoaaDoorW.PrintWords Go.Proofs.YthchdlniopmcoaaDoorW.PrintLast Go.Proofs.YthchdlniopmcoaaDoorW.PrintMore
attribute [local go_sem] max2_int min2_int max_two min_two max_three min_three max_four min_four
set_option linter.unusedVariables false
set_option linter.unusedSimpArgs false
def laws_FnExactPiecesText.f (k : Nat) (l0 : List (S45)) : Option (Bool) := (laws_szPieceS.f k l0 1048576).bind fun t138 => (if t138 < 0 then (some true) else ((laws_toPieceS.f k l0).bind fun t139 => ((spec_PiecesText.f k t139).bind fun t142 => ((laws_toPieceS.f k l0).bind fun t143 => ((impl_PiecesText.f t143).bind fun t146 => (if t146.toList = t142.toList then ((laws_toPieceS.f k l0).bind fun t147 => ((laws_eqPieceS.f k t143 t147).bind fun t150 => (if t150 = true then (some true) else (some false)))) else (some false)))))))
theorem laws_FnExactPiecesText.mono : ∀ a0 k, LeO (laws_FnExactPiecesText.f k a0) (laws_FnExactPiecesText.f (k + 1) a0) := by
  intro a0 k
  unfold laws_FnExactPiecesText.f
  repeat' first
      | (with_reducible exact laws_eqPieceS.mono _ _ _)
      | (with_reducible exact laws_szPieceS.mono _ _ _)
      | (with_reducible exact laws_toPieceS.mono _ _)
      | (with_reducible exact spec_PiecesText.mono _ _)
      | (with_reducible exact LeO.refl _)
      | (with_reducible exact LeO.none _)
      | (with_reducible refine LeO.ite ?_ ?_)
      | (with_reducible refine LeO.bind ?_ (fun _ => ?_))
      | exact laws_eqPieceS.mono _ _ _
      | exact laws_szPieceS.mono _ _ _
      | exact laws_toPieceS.mono _ _
      | exact spec_PiecesText.mono _ _
      | exact LeO.none _
      | refine LeO.ite ?_ ?_
      | refine LeO.bind ?_ (fun _ => ?_)
set_option maxHeartbeats 8000000 in
set_option maxRecDepth 100000 in
theorem laws_FnExactPiecesText.calls (k : Nat) (A0 : Option Addr) (c0 : Nat) (l0 : List (S45)) (r : Bool) (w : World) (hr0 : Kd.C k45 w A0 l0.length l0) (hc0 : l0.length ≤ c0) (hG : GlobMT w) (h : laws_FnExactPiecesText.f k l0 = some r) :
    Calls Tryd.prog 4 #[.slice A0 l0.length c0] w fun e w' => e = .returned (.bool r) ∧ Below w.heap.size w w' := by
  have HG := Aside0.mk hG
  clear hG
  have HR0 := Aside0.mk hr0
  have HC0 := Aside0.mk hc0
  clear hr0 hc0
  have HB := Aside0.mk (Below.refl w.heap.size w)
  have H : ((laws_szPieceS.f k l0 1048576).bind fun t138 => (if t138 < 0 then (some true) else ((laws_toPieceS.f k l0).bind fun t139 => ((spec_PiecesText.f k t139).bind fun t142 => ((laws_toPieceS.f k l0).bind fun t143 => ((impl_PiecesText.f t143).bind fun t146 => (if t146.toList = t142.toList then ((laws_toPieceS.f k l0).bind fun t147 => ((laws_eqPieceS.f k t143 t147).bind fun t150 => (if t150 = true then (some true) else (some false)))) else (some false)))))))) = some r := h
  clear h
  replace H := Option.bind_eq_some_iff.mp H
  obtain ⟨t138, A20, H⟩ := H
  replace H : (if t138 < 0 then (some true) else ((laws_toPieceS.f k l0).bind fun t139 => ((spec_PiecesText.f k t139).bind fun t142 => ((laws_toPieceS.f k l0).bind fun t143 => ((impl_PiecesText.f t143).bind fun t146 => (if t146.toList = t142.toList then ((laws_toPieceS.f k l0).bind fun t147 => ((laws_eqPieceS.f k t143 t147).bind fun t150 => (if t150 = true then (some true) else (some false)))) else (some false))))))) = some r := H
  have A2 := Aside0.mk A20
  clear A20
  by_cases c3 : t138 < 0
  · rw [if_pos c3] at H
    have c3b0 : decide (t138 < 0) = true := decide_eq_true c3
    clear c3
    obtain rfl := Option.some.inj H
    go_enter Tryd.func4, Tryd.ntmps4
    go_wp2_with (first | ((with_reducible refine gate_callee (f := 6) rfl ?_); refine goesL_ (some 9) rfl rfl Tryd.func6 (by kernel_rfl) rfl #[.slice A0 l0.length c0, .int .i64 1048576] rfl (by (try simp only [List.map_toArray, List.map_cons, List.map_nil]); first | done | rfl | (simp only [List.length_drop, List.length_take]; rfl)) ?_; (with_reducible refine (laws_szPieceS.calls k _ _ l0 1048576 t138 _ ?side1 ?side2 A2.out).mono ?_); (case side1 => repeat (first | exact HR0.out | (with_reducible refine Kd.C_alloc ?_ _) | (with_reducible refine Kd.C_drewN ?_ _) | (with_reducible refine Kd.C_drew ?_))); (case side2 => exact HC0.out); rintro e w4 ⟨rfl, hb⟩; refine ⟨_, rfl, ?_⟩; have n0_ := Aside0.mk (below_step (by repeat (first | (with_reducible first | exact HB.out | apply below_alloc | apply pw_below_drewN | apply below_drew1) | exact HB.out)) hb); clear HB; have HB := n0_; clear n0_; (try clear hb); (try clear hb2); (try clear hk); (try clear hi)))
    go_ret
    exact ⟨by first | rfl | (simp [errW_none, errW_some] <;> rfl) | (simp [*, errW_none, errW_some] <;> rfl), by repeat (first | (with_reducible first | exact HB.out | apply below_alloc | apply pw_below_drewN | apply below_drew1) | exact HB.out)⟩
  · rw [if_neg c3] at H
    have c3b0 : decide (t138 < 0) = false := decide_eq_false c3
    clear c3
    replace H := Option.bind_eq_some_iff.mp H
    obtain ⟨t139, A50, H⟩ := H
    replace H : ((spec_PiecesText.f k t139).bind fun t142 => ((laws_toPieceS.f k l0).bind fun t143 => ((impl_PiecesText.f t143).bind fun t146 => (if t146.toList = t142.toList then ((laws_toPieceS.f k l0).bind fun t147 => ((laws_eqPieceS.f k t143 t147).bind fun t150 => (if t150 = true then (some true) else (some false)))) else (some false))))) = some r := H
    have A5 := Aside0.mk A50
    clear A50
    replace H := Option.bind_eq_some_iff.mp H
    obtain ⟨t142, A60, H⟩ := H
    replace H : ((laws_toPieceS.f k l0).bind fun t143 => ((impl_PiecesText.f t143).bind fun t146 => (if t146.toList = t142.toList then ((laws_toPieceS.f k l0).bind fun t147 => ((laws_eqPieceS.f k t143 t147).bind fun t150 => (if t150 = true then (some true) else (some false)))) else (some false)))) = some r := H
    have A6 := Aside0.mk A60
    clear A60
    replace H := Option.bind_eq_some_iff.mp H
    obtain ⟨t143, A70, H⟩ := H
    replace H : ((impl_PiecesText.f t143).bind fun t146 => (if t146.toList = t142.toList then ((laws_toPieceS.f k l0).bind fun t147 => ((laws_eqPieceS.f k t143 t147).bind fun t150 => (if t150 = true then (some true) else (some false)))) else (some false))) = some r := H
    have A7 := Aside0.mk A70
    clear A70
    replace H := Option.bind_eq_some_iff.mp H
    obtain ⟨t146, A80, H⟩ := H
    replace H : (if t146.toList = t142.toList then ((laws_toPieceS.f k l0).bind fun t147 => ((laws_eqPieceS.f k t143 t147).bind fun t150 => (if t150 = true then (some true) else (some false)))) else (some false)) = some r := H
    have A8 := Aside0.mk A80
    clear A80
    by_cases c9 : t146.toList = t142.toList
    · rw [if_pos c9] at H
      have c9b0 : (t146.toList == t142.toList) = true := beq_iff_eq.mpr c9
      have c9b1 : (t146.toList != t142.toList) = false := bne_eq_false_iff_eq.mpr c9
      clear c9
      replace H := Option.bind_eq_some_iff.mp H
      obtain ⟨t147, A100, H⟩ := H
      replace H : ((laws_eqPieceS.f k t143 t147).bind fun t150 => (if t150 = true then (some true) else (some false))) = some r := H
      have A10 := Aside0.mk A100
      clear A100
      replace H := Option.bind_eq_some_iff.mp H
      obtain ⟨t150, A110, H⟩ := H
      replace H : (if t150 = true then (some true) else (some false)) = some r := H
      have A11 := Aside0.mk A110
      clear A110
      by_cases c12 : t150 = true
      · subst c12
        have H1 : (some true) = some r := by rw [if_pos rfl] at H; exact H
        clear H
        have H := H1
        clear H1
        obtain rfl := Option.some.inj H
        go_enter Tryd.func4, Tryd.ntmps4
        go_wp2_with (first | ((with_reducible refine gate_callee (f := 6) rfl ?_); refine goesL_ (some 9) rfl rfl Tryd.func6 (by kernel_rfl) rfl #[.slice A0 l0.length c0, .int .i64 1048576] rfl (by (try simp only [List.map_toArray, List.map_cons, List.map_nil]); first | done | rfl | (simp only [List.length_drop, List.length_take]; rfl)) ?_; (with_reducible refine (laws_szPieceS.calls k _ _ l0 1048576 t138 _ ?side1 ?side2 A2.out).mono ?_); (case side1 => repeat (first | exact HR0.out | (with_reducible refine Kd.C_alloc ?_ _) | (with_reducible refine Kd.C_drewN ?_ _) | (with_reducible refine Kd.C_drew ?_))); (case side2 => exact HC0.out); rintro e w13 ⟨rfl, hb⟩; refine ⟨_, rfl, ?_⟩; have n0_ := Aside0.mk (below_step (by repeat (first | (with_reducible first | exact HB.out | apply below_alloc | apply pw_below_drewN | apply below_drew1) | exact HB.out)) hb); clear HB; have HB := n0_; clear n0_; (try clear hb); (try clear hb2); (try clear hk); (try clear hi)) | ((with_reducible refine gate_callee (f := 9) rfl ?_); refine goesL_ (some 13) rfl rfl Tryd.func9 (by kernel_rfl) rfl #[.slice A0 l0.length c0] rfl (by (try simp only [List.map_toArray, List.map_cons, List.map_nil]); first | done | rfl | (simp only [List.length_drop, List.length_take]; rfl)) ?_; (with_reducible refine (laws_toPieceS.calls k _ _ l0 t139 _ ?side1 ?side2 A5.out).mono ?_); (case side1 => repeat (first | exact (Kd.C_below HR0.out HB.out) | (with_reducible refine Kd.C_alloc ?_ _) | (with_reducible refine Kd.C_drewN ?_ _) | (with_reducible refine Kd.C_drew ?_))); (case side2 => exact HC0.out); rintro e w14 ⟨v140, rfl, ho0, hb⟩; refine ⟨_, rfl, ?_⟩; have n0_ := Aside0.mk (Kd.R_lower ho0 (below_size (by repeat (first | (with_reducible first | exact HB.out | apply below_alloc | apply pw_below_drewN | apply below_drew1) | exact HB.out)))); have n1_ := Aside0.mk (below_step (by repeat (first | (with_reducible first | exact HB.out | apply below_alloc | apply pw_below_drewN | apply below_drew1) | exact HB.out)) hb); clear HB; have HO141 := n0_; have HB := n1_; clear n0_ n1_; (try clear hb); (try clear hb2); (try clear hk); (try clear hi); (try clear ho0); obtain ⟨Ao15, co15, eo15⟩ := Kd.R_slice HO141.out; subst eo15) | ((with_reducible refine gate_callee (f := 19) rfl ?_); refine goesL_ (some 14) rfl rfl Tryd.func19 (by kernel_rfl) rfl #[.slice Ao15 t139.length co15] rfl (by (try simp only [List.map_toArray, List.map_cons, List.map_nil]); first | done | rfl | (simp only [List.length_drop, List.length_take]; rfl)) ?_; (with_reducible refine (spec_PiecesText.calls k _ _ t139 t142 _ ?side1 ?side2 A6.out).mono ?_); (case side1 => repeat (first | exact (Kd.R_reads' HO141.out).2.2 | (with_reducible refine Kd.C_alloc ?_ _) | (with_reducible refine Kd.C_drewN ?_ _) | (with_reducible refine Kd.C_drew ?_))); (case side2 => exact (Kd.R_reads' HO141.out).2.1); rintro e w16 ⟨rfl, hb⟩; refine ⟨_, rfl, ?_⟩; have n0_ := Aside0.mk (Kd.R_below (by (with_reducible repeat (first | apply Kd.R_alloc | apply Kd.R_drewN | apply Kd.R_drew)); exact HO141.out) hb); have n1_ := Aside0.mk (below_step (by repeat (first | (with_reducible first | exact HB.out | apply below_alloc | apply pw_below_drewN | apply below_drew1) | exact HB.out)) hb); clear HO141; clear HB; have HO141 := n0_; have HB := n1_; clear n0_ n1_; (try clear hb); (try clear hb2); (try clear hk); (try clear hi)) | ((with_reducible refine gate_callee (f := 9) rfl ?_); refine goesL_ (some 16) rfl rfl Tryd.func9 (by kernel_rfl) rfl #[.slice A0 l0.length c0] rfl (by (try simp only [List.map_toArray, List.map_cons, List.map_nil]); first | done | rfl | (simp only [List.length_drop, List.length_take]; rfl)) ?_; (with_reducible refine (laws_toPieceS.calls k _ _ l0 t143 _ ?side1 ?side2 A7.out).mono ?_); (case side1 => repeat (first | exact (Kd.C_below HR0.out HB.out) | (with_reducible refine Kd.C_alloc ?_ _) | (with_reducible refine Kd.C_drewN ?_ _) | (with_reducible refine Kd.C_drew ?_))); (case side2 => exact HC0.out); rintro e w17 ⟨v144, rfl, ho0, hb⟩; refine ⟨_, rfl, ?_⟩; have n0_ := Aside0.mk (Kd.R_elder' (by (with_reducible repeat (first | apply Kd.R_alloc | apply Kd.R_drewN | apply Kd.R_drew)); exact HO141.out) (Kd.R_base ho0) hb); have n1_ := Aside0.mk (Kd.R_lower (Kd.R_new' ho0 (Kd.R_lt (by (with_reducible repeat (first | apply Kd.R_alloc | apply Kd.R_drewN | apply Kd.R_drew)); exact HO141.out))) (below_size (by repeat (first | (with_reducible first | exact HB.out | apply below_alloc | apply pw_below_drewN | apply below_drew1) | exact HB.out)))); have n2_ := Aside0.mk (below_step (by repeat (first | (with_reducible first | exact HB.out | apply below_alloc | apply pw_below_drewN | apply below_drew1) | exact HB.out)) hb); clear HO141; clear HB; have HO141 := n0_; have HO145 := n1_; have HB := n2_; clear n0_ n1_ n2_; (try clear hb); (try clear hb2); (try clear hk); (try clear hi); (try clear ho0); obtain ⟨Ao18, co18, eo18⟩ := Kd.R_slice HO145.out; subst eo18) | ((with_reducible refine gate_callee (f := 20) rfl ?_); refine goesL_ (some 18) rfl rfl Tryd.func20 (by kernel_rfl) rfl #[.slice Ao18 t143.length co18] rfl (by (try simp only [List.map_toArray, List.map_cons, List.map_nil]); first | done | rfl | (simp only [List.length_drop, List.length_take]; rfl)) ?_; (with_reducible refine (impl_PiecesText.calls _ _ t143 t146 _ ?side1 ?side2 ?sideG A8.out).mono ?_); (case sideG => first | exact HG.out.below (by repeat (first | (with_reducible first | exact HB.out | apply below_alloc | apply pw_below_drewN | apply below_drew1) | exact HB.out)) | exact (HG.out.below (by repeat (first | (with_reducible first | exact HB.out | apply below_alloc | apply pw_below_drewN | apply below_drew1) | exact HB.out))).toM); (case side1 => repeat (first | exact (Kd.R_reads' HO145.out).2.2 | (with_reducible refine Kd.C_alloc ?_ _) | (with_reducible refine Kd.C_drewN ?_ _) | (with_reducible refine Kd.C_drew ?_))); (case side2 => exact (Kd.R_reads' HO145.out).2.1); rintro e w19 ⟨rfl, hb⟩; refine ⟨_, rfl, ?_⟩; have n0_ := Aside0.mk (Kd.R_below (by (with_reducible repeat (first | apply Kd.R_alloc | apply Kd.R_drewN | apply Kd.R_drew)); exact HO141.out) hb); have n1_ := Aside0.mk (Kd.R_below (by (with_reducible repeat (first | apply Kd.R_alloc | apply Kd.R_drewN | apply Kd.R_drew)); exact HO145.out) hb); have n2_ := Aside0.mk (below_step (by repeat (first | (with_reducible first | exact HB.out | apply below_alloc | apply pw_below_drewN | apply below_drew1) | exact HB.out)) hb); clear HO141; clear HO145; clear HB; have HO141 := n0_; have HO145 := n1_; have HB := n2_; clear n0_ n1_ n2_; (try clear hb); (try clear hb2); (try clear hk); (try clear hi)) | ((with_reducible refine gate_callee (f := 9) rfl ?_); refine goesL_ (some 24) rfl rfl Tryd.func9 (by kernel_rfl) rfl #[.slice A0 l0.length c0] rfl (by (try simp only [List.map_toArray, List.map_cons, List.map_nil]); first | done | rfl | (simp only [List.length_drop, List.length_take]; rfl)) ?_; (with_reducible refine (laws_toPieceS.calls k _ _ l0 t147 _ ?side1 ?side2 A10.out).mono ?_); (case side1 => repeat (first | exact (Kd.C_below HR0.out HB.out) | (with_reducible refine Kd.C_alloc ?_ _) | (with_reducible refine Kd.C_drewN ?_ _) | (with_reducible refine Kd.C_drew ?_))); (case side2 => exact HC0.out); rintro e w20 ⟨v148, rfl, ho0, hb⟩; refine ⟨_, rfl, ?_⟩; have n0_ := Aside0.mk (Kd.R_elder' (by (with_reducible repeat (first | apply Kd.R_alloc | apply Kd.R_drewN | apply Kd.R_drew)); exact HO141.out) (Kd.R_base ho0) hb); have n1_ := Aside0.mk (Kd.R_elder' (by (with_reducible repeat (first | apply Kd.R_alloc | apply Kd.R_drewN | apply Kd.R_drew)); exact HO145.out) (Kd.R_base ho0) hb); have n2_ := Aside0.mk (Kd.R_lower (Kd.R_new' (Kd.R_new' ho0 (Kd.R_lt (by (with_reducible repeat (first | apply Kd.R_alloc | apply Kd.R_drewN | apply Kd.R_drew)); exact HO141.out))) (Kd.R_lt (by (with_reducible repeat (first | apply Kd.R_alloc | apply Kd.R_drewN | apply Kd.R_drew)); exact HO145.out))) (below_size (by repeat (first | (with_reducible first | exact HB.out | apply below_alloc | apply pw_below_drewN | apply below_drew1) | exact HB.out)))); have n3_ := Aside0.mk (below_step (by repeat (first | (with_reducible first | exact HB.out | apply below_alloc | apply pw_below_drewN | apply below_drew1) | exact HB.out)) hb); clear HO141; clear HO145; clear HB; have HO141 := n0_; have HO145 := n1_; have HO149 := n2_; have HB := n3_; clear n0_ n1_ n2_ n3_; (try clear hb); (try clear hb2); (try clear hk); (try clear hi); (try clear ho0); obtain ⟨Ao21, co21, eo21⟩ := Kd.R_slice HO149.out; subst eo21) | ((with_reducible refine gate_callee (f := 13) rfl ?_); refine goesL_ (some 25) rfl rfl Tryd.func13 (by kernel_rfl) rfl #[.slice Ao18 t143.length co18, .slice Ao21 t147.length co21] rfl (by (try simp only [List.map_toArray, List.map_cons, List.map_nil]); first | done | rfl | (simp only [List.length_drop, List.length_take]; rfl)) ?_; (with_reducible refine (laws_eqPieceS.calls k _ _ t143 _ _ t147 true _ ?side1 ?side2 ?side3 ?side4 A11.out).mono ?_); (case side1 => repeat (first | exact (Kd.R_reads' HO145.out).2.2 | (with_reducible refine Kd.C_alloc ?_ _) | (with_reducible refine Kd.C_drewN ?_ _) | (with_reducible refine Kd.C_drew ?_))); (case side2 => exact (Kd.R_reads' HO145.out).2.1); (case side3 => repeat (first | exact (Kd.R_reads' HO149.out).2.2 | (with_reducible refine Kd.C_alloc ?_ _) | (with_reducible refine Kd.C_drewN ?_ _) | (with_reducible refine Kd.C_drew ?_))); (case side4 => exact (Kd.R_reads' HO149.out).2.1); rintro e w22 ⟨rfl, hb⟩; refine ⟨_, rfl, ?_⟩; have n0_ := Aside0.mk (Kd.R_below (by (with_reducible repeat (first | apply Kd.R_alloc | apply Kd.R_drewN | apply Kd.R_drew)); exact HO141.out) hb); have n1_ := Aside0.mk (Kd.R_below (by (with_reducible repeat (first | apply Kd.R_alloc | apply Kd.R_drewN | apply Kd.R_drew)); exact HO145.out) hb); have n2_ := Aside0.mk (Kd.R_below (by (with_reducible repeat (first | apply Kd.R_alloc | apply Kd.R_drewN | apply Kd.R_drew)); exact HO149.out) hb); have n3_ := Aside0.mk (below_step (by repeat (first | (with_reducible first | exact HB.out | apply below_alloc | apply pw_below_drewN | apply below_drew1) | exact HB.out)) hb); clear HO141; clear HO145; clear HO149; clear HB; have HO141 := n0_; have HO145 := n1_; have HO149 := n2_; have HB := n3_; clear n0_ n1_ n2_ n3_; (try clear hb); (try clear hb2); (try clear hk); (try clear hi)))
        go_ret
        exact ⟨by first | rfl | (simp [errW_none, errW_some] <;> rfl) | (simp [*, errW_none, errW_some] <;> rfl), by repeat (first | (with_reducible first | exact HB.out | apply below_alloc | apply pw_below_drewN | apply below_drew1) | exact HB.out)⟩
      · replace c12 := Bool.eq_false_iff.mpr c12
        subst c12
        have H1 : (some false) = some r := by rw [if_neg (show ¬ (false = true) by decide)] at H; exact H
        clear H
        have H := H1
        clear H1
        obtain rfl := Option.some.inj H
        go_enter Tryd.func4, Tryd.ntmps4
        go_wp2_with (first | ((with_reducible refine gate_callee (f := 6) rfl ?_); refine goesL_ (some 9) rfl rfl Tryd.func6 (by kernel_rfl) rfl #[.slice A0 l0.length c0, .int .i64 1048576] rfl (by (try simp only [List.map_toArray, List.map_cons, List.map_nil]); first | done | rfl | (simp only [List.length_drop, List.length_take]; rfl)) ?_; (with_reducible refine (laws_szPieceS.calls k _ _ l0 1048576 t138 _ ?side1 ?side2 A2.out).mono ?_); (case side1 => repeat (first | exact HR0.out | (with_reducible refine Kd.C_alloc ?_ _) | (with_reducible refine Kd.C_drewN ?_ _) | (with_reducible refine Kd.C_drew ?_))); (case side2 => exact HC0.out); rintro e w23 ⟨rfl, hb⟩; refine ⟨_, rfl, ?_⟩; have n0_ := Aside0.mk (below_step (by repeat (first | (with_reducible first | exact HB.out | apply below_alloc | apply pw_below_drewN | apply below_drew1) | exact HB.out)) hb); clear HB; have HB := n0_; clear n0_; (try clear hb); (try clear hb2); (try clear hk); (try clear hi)) | ((with_reducible refine gate_callee (f := 9) rfl ?_); refine goesL_ (some 13) rfl rfl Tryd.func9 (by kernel_rfl) rfl #[.slice A0 l0.length c0] rfl (by (try simp only [List.map_toArray, List.map_cons, List.map_nil]); first | done | rfl | (simp only [List.length_drop, List.length_take]; rfl)) ?_; (with_reducible refine (laws_toPieceS.calls k _ _ l0 t139 _ ?side1 ?side2 A5.out).mono ?_); (case side1 => repeat (first | exact (Kd.C_below HR0.out HB.out) | (with_reducible refine Kd.C_alloc ?_ _) | (with_reducible refine Kd.C_drewN ?_ _) | (with_reducible refine Kd.C_drew ?_))); (case side2 => exact HC0.out); rintro e w24 ⟨v140, rfl, ho0, hb⟩; refine ⟨_, rfl, ?_⟩; have n0_ := Aside0.mk (Kd.R_lower ho0 (below_size (by repeat (first | (with_reducible first | exact HB.out | apply below_alloc | apply pw_below_drewN | apply below_drew1) | exact HB.out)))); have n1_ := Aside0.mk (below_step (by repeat (first | (with_reducible first | exact HB.out | apply below_alloc | apply pw_below_drewN | apply below_drew1) | exact HB.out)) hb); clear HB; have HO141 := n0_; have HB := n1_; clear n0_ n1_; (try clear hb); (try clear hb2); (try clear hk); (try clear hi); (try clear ho0); obtain ⟨Ao25, co25, eo25⟩ := Kd.R_slice HO141.out; subst eo25) | ((with_reducible refine gate_callee (f := 19) rfl ?_); refine goesL_ (some 14) rfl rfl Tryd.func19 (by kernel_rfl) rfl #[.slice Ao25 t139.length co25] rfl (by (try simp only [List.map_toArray, List.map_cons, List.map_nil]); first | done | rfl | (simp only [List.length_drop, List.length_take]; rfl)) ?_; (with_reducible refine (spec_PiecesText.calls k _ _ t139 t142 _ ?side1 ?side2 A6.out).mono ?_); (case side1 => repeat (first | exact (Kd.R_reads' HO141.out).2.2 | (with_reducible refine Kd.C_alloc ?_ _) | (with_reducible refine Kd.C_drewN ?_ _) | (with_reducible refine Kd.C_drew ?_))); (case side2 => exact (Kd.R_reads' HO141.out).2.1); rintro e w26 ⟨rfl, hb⟩; refine ⟨_, rfl, ?_⟩; have n0_ := Aside0.mk (Kd.R_below (by (with_reducible repeat (first | apply Kd.R_alloc | apply Kd.R_drewN | apply Kd.R_drew)); exact HO141.out) hb); have n1_ := Aside0.mk (below_step (by repeat (first | (with_reducible first | exact HB.out | apply below_alloc | apply pw_below_drewN | apply below_drew1) | exact HB.out)) hb); clear HO141; clear HB; have HO141 := n0_; have HB := n1_; clear n0_ n1_; (try clear hb); (try clear hb2); (try clear hk); (try clear hi)) | ((with_reducible refine gate_callee (f := 9) rfl ?_); refine goesL_ (some 16) rfl rfl Tryd.func9 (by kernel_rfl) rfl #[.slice A0 l0.length c0] rfl (by (try simp only [List.map_toArray, List.map_cons, List.map_nil]); first | done | rfl | (simp only [List.length_drop, List.length_take]; rfl)) ?_; (with_reducible refine (laws_toPieceS.calls k _ _ l0 t143 _ ?side1 ?side2 A7.out).mono ?_); (case side1 => repeat (first | exact (Kd.C_below HR0.out HB.out) | (with_reducible refine Kd.C_alloc ?_ _) | (with_reducible refine Kd.C_drewN ?_ _) | (with_reducible refine Kd.C_drew ?_))); (case side2 => exact HC0.out); rintro e w27 ⟨v144, rfl, ho0, hb⟩; refine ⟨_, rfl, ?_⟩; have n0_ := Aside0.mk (Kd.R_elder' (by (with_reducible repeat (first | apply Kd.R_alloc | apply Kd.R_drewN | apply Kd.R_drew)); exact HO141.out) (Kd.R_base ho0) hb); have n1_ := Aside0.mk (Kd.R_lower (Kd.R_new' ho0 (Kd.R_lt (by (with_reducible repeat (first | apply Kd.R_alloc | apply Kd.R_drewN | apply Kd.R_drew)); exact HO141.out))) (below_size (by repeat (first | (with_reducible first | exact HB.out | apply below_alloc | apply pw_below_drewN | apply below_drew1) | exact HB.out)))); have n2_ := Aside0.mk (below_step (by repeat (first | (with_reducible first | exact HB.out | apply below_alloc | apply pw_below_drewN | apply below_drew1) | exact HB.out)) hb); clear HO141; clear HB; have HO141 := n0_; have HO145 := n1_; have HB := n2_; clear n0_ n1_ n2_; (try clear hb); (try clear hb2); (try clear hk); (try clear hi); (try clear ho0); obtain ⟨Ao28, co28, eo28⟩ := Kd.R_slice HO145.out; subst eo28) | ((with_reducible refine gate_callee (f := 20) rfl ?_); refine goesL_ (some 18) rfl rfl Tryd.func20 (by kernel_rfl) rfl #[.slice Ao28 t143.length co28] rfl (by (try simp only [List.map_toArray, List.map_cons, List.map_nil]); first | done | rfl | (simp only [List.length_drop, List.length_take]; rfl)) ?_; (with_reducible refine (impl_PiecesText.calls _ _ t143 t146 _ ?side1 ?side2 ?sideG A8.out).mono ?_); (case sideG => first | exact HG.out.below (by repeat (first | (with_reducible first | exact HB.out | apply below_alloc | apply pw_below_drewN | apply below_drew1) | exact HB.out)) | exact (HG.out.below (by repeat (first | (with_reducible first | exact HB.out | apply below_alloc | apply pw_below_drewN | apply below_drew1) | exact HB.out))).toM); (case side1 => repeat (first | exact (Kd.R_reads' HO145.out).2.2 | (with_reducible refine Kd.C_alloc ?_ _) | (with_reducible refine Kd.C_drewN ?_ _) | (with_reducible refine Kd.C_drew ?_))); (case side2 => exact (Kd.R_reads' HO145.out).2.1); rintro e w29 ⟨rfl, hb⟩; refine ⟨_, rfl, ?_⟩; have n0_ := Aside0.mk (Kd.R_below (by (with_reducible repeat (first | apply Kd.R_alloc | apply Kd.R_drewN | apply Kd.R_drew)); exact HO141.out) hb); have n1_ := Aside0.mk (Kd.R_below (by (with_reducible repeat (first | apply Kd.R_alloc | apply Kd.R_drewN | apply Kd.R_drew)); exact HO145.out) hb); have n2_ := Aside0.mk (below_step (by repeat (first | (with_reducible first | exact HB.out | apply below_alloc | apply pw_below_drewN | apply below_drew1) | exact HB.out)) hb); clear HO141; clear HO145; clear HB; have HO141 := n0_; have HO145 := n1_; have HB := n2_; clear n0_ n1_ n2_; (try clear hb); (try clear hb2); (try clear hk); (try clear hi)) | ((with_reducible refine gate_callee (f := 9) rfl ?_); refine goesL_ (some 24) rfl rfl Tryd.func9 (by kernel_rfl) rfl #[.slice A0 l0.length c0] rfl (by (try simp only [List.map_toArray, List.map_cons, List.map_nil]); first | done | rfl | (simp only [List.length_drop, List.length_take]; rfl)) ?_; (with_reducible refine (laws_toPieceS.calls k _ _ l0 t147 _ ?side1 ?side2 A10.out).mono ?_); (case side1 => repeat (first | exact (Kd.C_below HR0.out HB.out) | (with_reducible refine Kd.C_alloc ?_ _) | (with_reducible refine Kd.C_drewN ?_ _) | (with_reducible refine Kd.C_drew ?_))); (case side2 => exact HC0.out); rintro e w30 ⟨v148, rfl, ho0, hb⟩; refine ⟨_, rfl, ?_⟩; have n0_ := Aside0.mk (Kd.R_elder' (by (with_reducible repeat (first | apply Kd.R_alloc | apply Kd.R_drewN | apply Kd.R_drew)); exact HO141.out) (Kd.R_base ho0) hb); have n1_ := Aside0.mk (Kd.R_elder' (by (with_reducible repeat (first | apply Kd.R_alloc | apply Kd.R_drewN | apply Kd.R_drew)); exact HO145.out) (Kd.R_base ho0) hb); have n2_ := Aside0.mk (Kd.R_lower (Kd.R_new' (Kd.R_new' ho0 (Kd.R_lt (by (with_reducible repeat (first | apply Kd.R_alloc | apply Kd.R_drewN | apply Kd.R_drew)); exact HO141.out))) (Kd.R_lt (by (with_reducible repeat (first | apply Kd.R_alloc | apply Kd.R_drewN | apply Kd.R_drew)); exact HO145.out))) (below_size (by repeat (first | (with_reducible first | exact HB.out | apply below_alloc | apply pw_below_drewN | apply below_drew1) | exact HB.out)))); have n3_ := Aside0.mk (below_step (by repeat (first | (with_reducible first | exact HB.out | apply below_alloc | apply pw_below_drewN | apply below_drew1) | exact HB.out)) hb); clear HO141; clear HO145; clear HB; have HO141 := n0_; have HO145 := n1_; have HO149 := n2_; have HB := n3_; clear n0_ n1_ n2_ n3_; (try clear hb); (try clear hb2); (try clear hk); (try clear hi); (try clear ho0); obtain ⟨Ao31, co31, eo31⟩ := Kd.R_slice HO149.out; subst eo31) | ((with_reducible refine gate_callee (f := 13) rfl ?_); refine goesL_ (some 25) rfl rfl Tryd.func13 (by kernel_rfl) rfl #[.slice Ao28 t143.length co28, .slice Ao31 t147.length co31] rfl (by (try simp only [List.map_toArray, List.map_cons, List.map_nil]); first | done | rfl | (simp only [List.length_drop, List.length_take]; rfl)) ?_; (with_reducible refine (laws_eqPieceS.calls k _ _ t143 _ _ t147 false _ ?side1 ?side2 ?side3 ?side4 A11.out).mono ?_); (case side1 => repeat (first | exact (Kd.R_reads' HO145.out).2.2 | (with_reducible refine Kd.C_alloc ?_ _) | (with_reducible refine Kd.C_drewN ?_ _) | (with_reducible refine Kd.C_drew ?_))); (case side2 => exact (Kd.R_reads' HO145.out).2.1); (case side3 => repeat (first | exact (Kd.R_reads' HO149.out).2.2 | (with_reducible refine Kd.C_alloc ?_ _) | (with_reducible refine Kd.C_drewN ?_ _) | (with_reducible refine Kd.C_drew ?_))); (case side4 => exact (Kd.R_reads' HO149.out).2.1); rintro e w32 ⟨rfl, hb⟩; refine ⟨_, rfl, ?_⟩; have n0_ := Aside0.mk (Kd.R_below (by (with_reducible repeat (first | apply Kd.R_alloc | apply Kd.R_drewN | apply Kd.R_drew)); exact HO141.out) hb); have n1_ := Aside0.mk (Kd.R_below (by (with_reducible repeat (first | apply Kd.R_alloc | apply Kd.R_drewN | apply Kd.R_drew)); exact HO145.out) hb); have n2_ := Aside0.mk (Kd.R_below (by (with_reducible repeat (first | apply Kd.R_alloc | apply Kd.R_drewN | apply Kd.R_drew)); exact HO149.out) hb); have n3_ := Aside0.mk (below_step (by repeat (first | (with_reducible first | exact HB.out | apply below_alloc | apply pw_below_drewN | apply below_drew1) | exact HB.out)) hb); clear HO141; clear HO145; clear HO149; clear HB; have HO141 := n0_; have HO145 := n1_; have HO149 := n2_; have HB := n3_; clear n0_ n1_ n2_ n3_; (try clear hb); (try clear hb2); (try clear hk); (try clear hi)))
        go_ret
        exact ⟨by first | rfl | (simp [errW_none, errW_some] <;> rfl) | (simp [*, errW_none, errW_some] <;> rfl), by repeat (first | (with_reducible first | exact HB.out | apply below_alloc | apply pw_below_drewN | apply below_drew1) | exact HB.out)⟩
    · rw [if_neg c9] at H
      have c9b0 : (t146.toList == t142.toList) = false := beq_eq_false_iff_ne.mpr c9
      have c9b1 : (t146.toList != t142.toList) = true := bne_iff_ne.mpr c9
      obtain rfl := Option.some.inj H
      go_enter Tryd.func4, Tryd.ntmps4
      go_wp2_with (first | ((with_reducible refine gate_callee (f := 6) rfl ?_); refine goesL_ (some 9) rfl rfl Tryd.func6 (by kernel_rfl) rfl #[.slice A0 l0.length c0, .int .i64 1048576] rfl (by (try simp only [List.map_toArray, List.map_cons, List.map_nil]); first | done | rfl | (simp only [List.length_drop, List.length_take]; rfl)) ?_; (with_reducible refine (laws_szPieceS.calls k _ _ l0 1048576 t138 _ ?side1 ?side2 A2.out).mono ?_); (case side1 => repeat (first | exact HR0.out | (with_reducible refine Kd.C_alloc ?_ _) | (with_reducible refine Kd.C_drewN ?_ _) | (with_reducible refine Kd.C_drew ?_))); (case side2 => exact HC0.out); rintro e w33 ⟨rfl, hb⟩; refine ⟨_, rfl, ?_⟩; have n0_ := Aside0.mk (below_step (by repeat (first | (with_reducible first | exact HB.out | apply below_alloc | apply pw_below_drewN | apply below_drew1) | exact HB.out)) hb); clear HB; have HB := n0_; clear n0_; (try clear hb); (try clear hb2); (try clear hk); (try clear hi)) | ((with_reducible refine gate_callee (f := 9) rfl ?_); refine goesL_ (some 13) rfl rfl Tryd.func9 (by kernel_rfl) rfl #[.slice A0 l0.length c0] rfl (by (try simp only [List.map_toArray, List.map_cons, List.map_nil]); first | done | rfl | (simp only [List.length_drop, List.length_take]; rfl)) ?_; (with_reducible refine (laws_toPieceS.calls k _ _ l0 t139 _ ?side1 ?side2 A5.out).mono ?_); (case side1 => repeat (first | exact (Kd.C_below HR0.out HB.out) | (with_reducible refine Kd.C_alloc ?_ _) | (with_reducible refine Kd.C_drewN ?_ _) | (with_reducible refine Kd.C_drew ?_))); (case side2 => exact HC0.out); rintro e w34 ⟨v140, rfl, ho0, hb⟩; refine ⟨_, rfl, ?_⟩; have n0_ := Aside0.mk (Kd.R_lower ho0 (below_size (by repeat (first | (with_reducible first | exact HB.out | apply below_alloc | apply pw_below_drewN | apply below_drew1) | exact HB.out)))); have n1_ := Aside0.mk (below_step (by repeat (first | (with_reducible first | exact HB.out | apply below_alloc | apply pw_below_drewN | apply below_drew1) | exact HB.out)) hb); clear HB; have HO141 := n0_; have HB := n1_; clear n0_ n1_; (try clear hb); (try clear hb2); (try clear hk); (try clear hi); (try clear ho0); obtain ⟨Ao35, co35, eo35⟩ := Kd.R_slice HO141.out; subst eo35) | ((with_reducible refine gate_callee (f := 19) rfl ?_); refine goesL_ (some 14) rfl rfl Tryd.func19 (by kernel_rfl) rfl #[.slice Ao35 t139.length co35] rfl (by (try simp only [List.map_toArray, List.map_cons, List.map_nil]); first | done | rfl | (simp only [List.length_drop, List.length_take]; rfl)) ?_; (with_reducible refine (spec_PiecesText.calls k _ _ t139 t142 _ ?side1 ?side2 A6.out).mono ?_); (case side1 => repeat (first | exact (Kd.R_reads' HO141.out).2.2 | (with_reducible refine Kd.C_alloc ?_ _) | (with_reducible refine Kd.C_drewN ?_ _) | (with_reducible refine Kd.C_drew ?_))); (case side2 => exact (Kd.R_reads' HO141.out).2.1); rintro e w36 ⟨rfl, hb⟩; refine ⟨_, rfl, ?_⟩; have n0_ := Aside0.mk (Kd.R_below (by (with_reducible repeat (first | apply Kd.R_alloc | apply Kd.R_drewN | apply Kd.R_drew)); exact HO141.out) hb); have n1_ := Aside0.mk (below_step (by repeat (first | (with_reducible first | exact HB.out | apply below_alloc | apply pw_below_drewN | apply below_drew1) | exact HB.out)) hb); clear HO141; clear HB; have HO141 := n0_; have HB := n1_; clear n0_ n1_; (try clear hb); (try clear hb2); (try clear hk); (try clear hi)) | ((with_reducible refine gate_callee (f := 9) rfl ?_); refine goesL_ (some 16) rfl rfl Tryd.func9 (by kernel_rfl) rfl #[.slice A0 l0.length c0] rfl (by (try simp only [List.map_toArray, List.map_cons, List.map_nil]); first | done | rfl | (simp only [List.length_drop, List.length_take]; rfl)) ?_; (with_reducible refine (laws_toPieceS.calls k _ _ l0 t143 _ ?side1 ?side2 A7.out).mono ?_); (case side1 => repeat (first | exact (Kd.C_below HR0.out HB.out) | (with_reducible refine Kd.C_alloc ?_ _) | (with_reducible refine Kd.C_drewN ?_ _) | (with_reducible refine Kd.C_drew ?_))); (case side2 => exact HC0.out); rintro e w37 ⟨v144, rfl, ho0, hb⟩; refine ⟨_, rfl, ?_⟩; have n0_ := Aside0.mk (Kd.R_elder' (by (with_reducible repeat (first | apply Kd.R_alloc | apply Kd.R_drewN | apply Kd.R_drew)); exact HO141.out) (Kd.R_base ho0) hb); have n1_ := Aside0.mk (Kd.R_lower (Kd.R_new' ho0 (Kd.R_lt (by (with_reducible repeat (first | apply Kd.R_alloc | apply Kd.R_drewN | apply Kd.R_drew)); exact HO141.out))) (below_size (by repeat (first | (with_reducible first | exact HB.out | apply below_alloc | apply pw_below_drewN | apply below_drew1) | exact HB.out)))); have n2_ := Aside0.mk (below_step (by repeat (first | (with_reducible first | exact HB.out | apply below_alloc | apply pw_below_drewN | apply below_drew1) | exact HB.out)) hb); clear HO141; clear HB; have HO141 := n0_; have HO145 := n1_; have HB := n2_; clear n0_ n1_ n2_; (try clear hb); (try clear hb2); (try clear hk); (try clear hi); (try clear ho0); obtain ⟨Ao38, co38, eo38⟩ := Kd.R_slice HO145.out; subst eo38) | ((with_reducible refine gate_callee (f := 20) rfl ?_); refine goesL_ (some 18) rfl rfl Tryd.func20 (by kernel_rfl) rfl #[.slice Ao38 t143.length co38] rfl (by (try simp only [List.map_toArray, List.map_cons, List.map_nil]); first | done | rfl | (simp only [List.length_drop, List.length_take]; rfl)) ?_; (with_reducible refine (impl_PiecesText.calls _ _ t143 t146 _ ?side1 ?side2 ?sideG A8.out).mono ?_); (case sideG => first | exact HG.out.below (by repeat (first | (with_reducible first | exact HB.out | apply below_alloc | apply pw_below_drewN | apply below_drew1) | exact HB.out)) | exact (HG.out.below (by repeat (first | (with_reducible first | exact HB.out | apply below_alloc | apply pw_below_drewN | apply below_drew1) | exact HB.out))).toM); (case side1 => repeat (first | exact (Kd.R_reads' HO145.out).2.2 | (with_reducible refine Kd.C_alloc ?_ _) | (with_reducible refine Kd.C_drewN ?_ _) | (with_reducible refine Kd.C_drew ?_))); (case side2 => exact (Kd.R_reads' HO145.out).2.1); rintro e w39 ⟨rfl, hb⟩; refine ⟨_, rfl, ?_⟩; have n0_ := Aside0.mk (Kd.R_below (by (with_reducible repeat (first | apply Kd.R_alloc | apply Kd.R_drewN | apply Kd.R_drew)); exact HO141.out) hb); have n1_ := Aside0.mk (Kd.R_below (by (with_reducible repeat (first | apply Kd.R_alloc | apply Kd.R_drewN | apply Kd.R_drew)); exact HO145.out) hb); have n2_ := Aside0.mk (below_step (by repeat (first | (with_reducible first | exact HB.out | apply below_alloc | apply pw_below_drewN | apply below_drew1) | exact HB.out)) hb); clear HO141; clear HO145; clear HB; have HO141 := n0_; have HO145 := n1_; have HB := n2_; clear n0_ n1_ n2_; (try clear hb); (try clear hb2); (try clear hk); (try clear hi)))
      go_ret
      exact ⟨by first | rfl | (simp [errW_none, errW_some] <;> rfl) | (simp [*, errW_none, errW_some] <;> rfl), by repeat (first | (with_reducible first | exact HB.out | apply below_alloc | apply pw_below_drewN | apply below_drew1) | exact HB.out)⟩
end Go.Proofs.YthchdlniopmcoaaDoor.Q
namespace Go.Proofs.YthchdlniopmcoaaDoor.Pure
open Go.RowKit Go.Proofs.YthchdlniopmcoaaDoor.Ext Go.Proofs.YthchdlniopmcoaaDoor.Q Go.Proofs.YthchdlniopmcoaaDoor.Txt Go.Proofs.YthchdlniopmcoaaDoorW.PrintWords Go.Proofs.YthchdlniopmcoaaDoorW.PrintLast Go.Proofs.YthchdlniopmcoaaDoorW.PrintMore
set_option linter.unusedVariables false
set_option linter.unusedSimpArgs false
set_option maxRecDepth 100000
abbrev LPc := S45
def toPc (x : LPc) : Pc := ⟨x.f0, x.f1, x.f2⟩
theorem rdL_get (l : List LPc) (i : Nat) (h : i < l.length) : rd_T45 l (i : Int) = l[i] := by
  unfold rd_T45
  rw [Int.toNat_natCast, List.getD_eq_getElem?_getD, List.getElem?_eq_getElem h]
  rfl
theorem rdP_get (l : List Pc) (i : Nat) (h : i < l.length) : rd_T53 l (i : Int) = l[i] := by
  unfold rd_T53
  rw [Int.toNat_natCast, List.getD_eq_getElem?_getD, List.getElem?_eq_getElem h]
  rfl
theorem szP_l0 (l : List LPc) (hn : l.length ≤ 1048576) (hs : ∀ s ∈ l, s.f0.size ≤ 9223372036854775807) : ∀ (d k i : Nat) (x : Int), i + d = l.length → d < k → 0 ≤ x → x ≤ 1048576 → ∃ r, laws_szPieceS.l0 k l x i = some r ∧ (r < 0 ∨ (r ≤ 1048576 ∧ 0 ≤ r ∧ ∀ s ∈ l.drop i, s.f0.size ≤ 1048576))
  | 0, k, i, x, hd, hk, h0, h1 => by
    obtain ⟨k, rfl⟩ := some_k hk
    rw [laws_szPieceS.l0, if_neg (by omega), List.drop_eq_nil_of_le (by omega)]
    exact ⟨x, rfl, .inr ⟨h1, h0, by simp⟩⟩
  | d + 1, k, i, x, hd, hk, h0, h1 => by
    obtain ⟨k, rfl⟩ := some_k hk
    have hi : i < l.length := by omega
    have hz := hs _ (List.getElem_mem hi)
    rw [laws_szPieceS.l0, if_pos (by omega), if_pos (by omega), rdL_get l i hi]
    unfold laws_szPiece.f
    rw [w64 (x := x - (l[i].f0.size : Int)) (by omega) (by omega), wrap_succ i (by omega)]
    by_cases h : x - (l[i].f0.size : Int) < 0
    · rw [if_pos h, Option.bind_some, if_pos (by omega)]
      exact ⟨-1, rfl, .inl (by omega)⟩
    · rw [if_neg h, Option.bind_some, if_neg (by omega)]
      obtain ⟨r, hr, hr2⟩ := szP_l0 l hn hs d k (i + 1) _ (by omega) (by omega) (by omega : 0 ≤ x - (l[i].f0.size : Int)) (by omega)
      refine ⟨r, hr, hr2.imp id fun hh => ⟨hh.1, hh.2.1, ?_⟩⟩
      rw [List.drop_eq_getElem_cons hi]
      intro s hs'
      rcases List.mem_cons.1 hs' with rfl | hs'
      · omega
      · exact hh.2.2 s hs'
theorem szP_eq (l : List LPc) (hn : l.length ≤ 9223372036854775807) (hs : ∀ s ∈ l, s.f0.size ≤ 9223372036854775807) {k : Nat} (hk : 1048576 < k) : ∃ r, laws_szPieceS.f k l 1048576 = some r ∧ (r < 0 ∨ (r ≤ 1048576 ∧ 0 ≤ r ∧ l.length ≤ 1048576 ∧ ∀ s ∈ l, s.f0.size ≤ 1048576)) := by
  unfold laws_szPieceS.f
  rw [w64 (x := 1048576 - (l.length : Int)) (by omega) (by omega)]
  by_cases h : 1048576 - (l.length : Int) < 0
  · rw [if_pos h]
    exact ⟨-1, rfl, .inl (by omega)⟩
  · rw [if_neg h]
    obtain ⟨r, hr, hr2⟩ := szP_l0 l (by omega) hs l.length k 0 (1048576 - (l.length : Int)) (by omega) (by omega) (by omega) (by omega)
    rw [show ((0 : Nat) : Int) = 0 from rfl] at hr
    exact ⟨r, hr, hr2.imp id fun hh => ⟨hh.1, hh.2.1, by omega, hh.2.2⟩⟩
theorem toP_l0 (l : List LPc) (hl : l.length ≤ 1048576) : ∀ (d k n : Nat) (x : List Pc), n + d = l.length → d < k → x.length = l.length → x.take n = (l.take n).map toPc → laws_toPieceS.l0 k l x n = some (l.map toPc)
  | 0, k, n, x, hd, hk, hx, ht => by
    obtain ⟨k, rfl⟩ := some_k hk
    rw [laws_toPieceS.l0, if_neg (by omega)]
    obtain rfl : n = l.length := by omega
    rw [List.take_length, ← hx, List.take_length] at ht
    rw [ht]
  | d + 1, k, n, x, hd, hk, hx, ht => by
    obtain ⟨k, rfl⟩ := some_k hk
    have hn : n < l.length := by omega
    rw [laws_toPieceS.l0, if_pos (by omega), if_pos (by omega), rdL_get l n hn]
    unfold laws_toPiece.f
    rw [Option.bind_some, if_pos (by omega), wrap_succ n (by omega), Int.toNat_natCast]
    refine toP_l0 l hl d k (n + 1) _ (by omega) (by omega) (by simpa using hx) ?_
    rw [List.take_succ_eq_append_getElem (by simp; omega), List.take_set, List.set_eq_of_length_le (by simp; omega), ht, List.take_succ_eq_append_getElem hn, List.map_append]
    congr 1
    simp [toPc]
theorem toP_eq (l : List LPc) (hl : l.length ≤ 1048576) {k : Nat} (hk : 1048576 < k) : laws_toPieceS.f k l = some (l.map toPc) := by
  unfold laws_toPieceS.f
  rw [if_pos (by omega), if_pos (by omega)]
  exact toP_l0 l hl l.length k 0 (List.replicate ((l.length : Int)).toNat z53) (by omega) (by omega) (by simp) (by simp)
theorem eqP_l0 (l : List Pc) (hl : l.length ≤ 1048576) : ∀ (d k n : Nat), n + d = l.length → d < k → laws_eqPieceS.l0 k l l n = some true
  | 0, k, n, hd, hk => by
    obtain ⟨k, rfl⟩ := some_k hk
    rw [laws_eqPieceS.l0, if_neg (by omega)]
  | d + 1, k, n, hd, hk => by
    obtain ⟨k, rfl⟩ := some_k hk
    rw [laws_eqPieceS.l0, if_pos (by omega), if_pos (by omega), if_pos (by omega)]
    unfold laws_eqPiece.f
    rw [if_pos rfl, if_pos rfl, if_pos rfl, Option.bind_some, if_pos rfl, wrap_succ n (by omega)]
    exact eqP_l0 l hl d k (n + 1) (by omega) (by omega)
theorem eqP_self (l : List Pc) (hl : l.length ≤ 1048576) {k : Nat} (hk : 1048576 < k) : laws_eqPieceS.f k l l = some true := by
  unfold laws_eqPieceS.f
  rw [if_pos rfl]
  exact eqP_l0 l hl l.length k 0 (by omega) (by omega)
theorem pieces_l0 (l : List Pc) (hl : l.length ≤ 1048576) : ∀ (d k n : Nat), n + d = l.length → d + 100 < k → spec_l04Pieces.l0 k l n = some (decide (l.length ≤ 8) && (l.drop n).all pieceB)
  | 0, k, n, hd, hk => by
    obtain ⟨k, rfl⟩ := some_k (d := 0) (by omega : 0 < k)
    rw [spec_l04Pieces.l0, if_neg (by omega), List.drop_eq_nil_of_le (by omega)]
    simp
    omega
  | d + 1, k, n, hd, hk => by
    obtain ⟨k, rfl⟩ := some_k (d := 0) (by omega : 0 < k)
    have hn : n < l.length := by omega
    rw [spec_l04Pieces.l0, if_pos (by omega), if_pos (by omega), rdP_get l n hn, List.drop_eq_getElem_cons hn, List.all_cons]
    by_cases h : ((l[n].f0.size : Nat) : Int) > 20
    · rw [if_pos h]
      unfold pieceB
      rw [show decide (l[n].f0.size ≤ 20) = false by simp; omega]
      simp
    · rw [if_neg h, text_eq _ (by omega) (by omega), Option.bind_some]
      have hp : pieceB l[n] = txt l[n].f0.data.toList := by
        unfold pieceB
        rw [show decide (l[n].f0.size ≤ 20) = true by simp; omega, Bool.and_true]
      rw [hp]
      cases txt l[n].f0.data.toList with
      | false => simp
      | true =>
        rw [if_pos rfl, wrap_succ n (by omega), pieces_l0 l hl d k (n + 1) (by omega) (by omega)]
        simp
theorem pieces_eq (l : List Pc) (hl : l.length ≤ 1048576) {k : Nat} (hk : 1048700 < k) : spec_l04Pieces.f k l = some (piecesB l) := by
  unfold spec_l04Pieces.f
  have := pieces_l0 l hl l.length k 0 (by omega) (by omega)
  rw [show ((0 : Nat) : Int) = 0 from rfl, List.drop_zero] at this
  exact this
theorem digit_bytes (n : Nat) : strOfNums [(wrap64 (48 + Int.tmod (n : Int) 10)) % 256] = (⟨#[UInt8.ofNat (48 + n % 10)]⟩ : ByteArray) := by
  have e : (wrap64 (48 + Int.tmod (n : Int) 10)) % 256 = ((48 + n % 10 : Nat) : Int) := by
    rw [Int.tmod_eq_emod_of_nonneg (by omega)]
    unfold wrap64; omega
  rw [e]
  unfold strOfNums
  rw [List.map_cons, List.map_nil, Int.toNat_natCast]
theorem decimal_eq : ∀ (d k n : Nat), n < 10 ^ d → n ≤ 4611686018427387904 → d < k → spec_Decimal.f k (n : Int) = some (⟨(Lib.decDigits n).toArray⟩ : ByteArray)
  | 0, k, n, h, _, hk => by
    obtain ⟨k, rfl⟩ := some_k hk
    have hn : n = 0 := by simp at h; exact h
    subst hn
    rw [spec_Decimal.f, if_pos (by omega), digit_bytes, Lib.decDigits, dif_pos (by omega)]
  | d + 1, k, n, h, h2, hk => by
    obtain ⟨k, rfl⟩ := some_k hk
    rw [spec_Decimal.f, digit_bytes]
    by_cases h10 : n < 10
    · rw [if_pos (by omega), Lib.decDigits, dif_pos h10, show n % 10 = n by omega]
    · have ht : wrap64 (Int.tdiv (n : Int) 10) = ((n / 10 : Nat) : Int) := by
        rw [Int.tdiv_eq_ediv_of_nonneg (by omega)]
        unfold wrap64; omega
      rw [if_neg (by omega), ht, decimal_eq d k (n / 10) (by rw [Nat.pow_succ] at h; omega) (by omega) (by omega), Option.bind_some, Option.bind_some, digit_bytes]
      have hl : (Lib.decDigits (n / 10)).length ≤ 21 := by
        have := Lib.itoa_length_le ((n / 10 : Nat) : Int) (by omega) (by omega)
        rwa [Lib.itoa_nonneg] at this
      have e1 : (⟨(Lib.decDigits (n / 10)).toArray⟩ : ByteArray).size = (Lib.decDigits (n / 10)).length := by simp [ByteArray.size]
      have e2 : (⟨#[UInt8.ofNat (48 + n % 10)]⟩ : ByteArray).size = 1 := rfl
      rw [if_pos (by rw [e1, e2]; omega)]
      congr 1
      apply ba_ext
      rw [Lib.decDigits.eq_1 n, dif_neg h10]
      simp
theorem dec_itoa (y : Int) (h0 : 0 ≤ y) (h1 : y ≤ 255) {k : Nat} (hk : 4 < k) : spec_Decimal.f k (wrap64 y) = some (⟨(Lib.itoa y).toArray⟩ : ByteArray) := by
  obtain ⟨n, rfl⟩ := Int.eq_ofNat_of_zero_le h0
  rw [w64 (by omega) (by omega), decimal_eq 4 k n (by omega) (by omega) hk, Lib.itoa_nonneg]
theorem told_l0 (l : List Pc) (hl : l.length ≤ 8) (hr : ∀ x ∈ l, (0 ≤ x.f1 ∧ x.f1 ≤ 255) ∧ (0 ≤ x.f2 ∧ x.f2 ≤ 255)) (hs : ∀ x ∈ l, x.f0.size ≤ 20) : ∀ (d k n : Nat), n + d = l.length → d + 10 < k →
    spec_l04Told.l0 k l ⟨(ptext (l.take n)).toArray⟩ n = some ⟨(ptext l).toArray⟩
  | 0, k, n, hd, hk => by
    obtain ⟨k, rfl⟩ := some_k (d := 0) (by omega : 0 < k)
    rw [spec_l04Told.l0, if_neg (by omega)]
    obtain rfl : n = l.length := by omega
    rw [List.take_length]
  | d + 1, k, n, hd, hk => by
    obtain ⟨k, rfl⟩ := some_k (d := 0) (by omega : 0 < k)
    have hn : n < l.length := by omega
    have hm := List.getElem_mem hn
    have h1 := hr _ hm
    have h2 := hs _ hm
    have ht := ptext_take (l := l) n hn
    have hle := ptext_le (l.take n) (fun x hx => hr x (List.mem_of_mem_take hx)) (fun x hx => hs x (List.mem_of_mem_take hx))
    have hpl := pline_le l[n] h1.1 h1.2 h2
    have a1 := Lib.itoa_length_le l[n].f1 (by omega) (by omega)
    have a2 := Lib.itoa_length_le l[n].f2 (by omega) (by omega)
    rw [rdP_get l n hn] at ht
    have z1 : (⟨(Lib.itoa l[n].f1).toArray⟩ : ByteArray).size = (Lib.itoa l[n].f1).length := by simp [ByteArray.size]
    have z2 : (⟨(Lib.itoa l[n].f2).toArray⟩ : ByteArray).size = (Lib.itoa l[n].f2).length := by simp [ByteArray.size]
    have z3 : (⟨#[58]⟩ : ByteArray).size = 1 := rfl
    have z5 : (⟨#[10]⟩ : ByteArray).size = 1 := rfl
    have z4 : (⟨(ptext (l.take n)).toArray⟩ : ByteArray).size = (ptext (l.take n)).length := by simp [ByteArray.size]
    have hlt : (l.take n).length ≤ 8 := by rw [List.length_take]; omega
    rw [spec_l04Told.l0, if_pos (by omega), if_pos (by omega), rdP_get l n hn, dec_itoa _ h1.1.1 h1.1.2 (by omega), Option.bind_some, if_pos (by rw [z1]; omega), if_pos (by rw [ByteArray.size_append, z1, z3]; omega),
      if_pos (by rw [ByteArray.size_append, ByteArray.size_append, z1, z3]; omega), dec_itoa _ h1.2.1 h1.2.2 (by omega), Option.bind_some, if_pos (by rw [ByteArray.size_append, ByteArray.size_append, ByteArray.size_append, z1, z2, z3]; omega),
      if_pos (by rw [ByteArray.size_append, ByteArray.size_append, ByteArray.size_append, ByteArray.size_append, z1, z2, z3]; omega), if_pos (by rw [ByteArray.size_append, ByteArray.size_append, ByteArray.size_append, ByteArray.size_append, ByteArray.size_append, z1, z2, z3, z4, z5]; omega),
      wrap_succ n (by omega), line_str]
    have hj : (⟨(ptext (l.take n)).toArray⟩ : ByteArray) ++ ⟨(pline ⟨l[n].f0, l[n].f1, l[n].f2⟩).toArray⟩ = ⟨(ptext (l.take (n + 1))).toArray⟩ := by
      apply ba_ext
      rw [ht]
      simp
    rw [hj]
    exact told_l0 l hl hr hs d k (n + 1) (by omega) (by omega)
theorem specText_eq (l : List Pc) (hl : l.length ≤ 1048576) (hr : ∀ x ∈ l, (0 ≤ x.f1 ∧ x.f1 ≤ 255) ∧ (0 ≤ x.f2 ∧ x.f2 ≤ 255)) {k : Nat} (hk : 1048700 < k) : spec_PiecesText.f k l = some (if piecesB l = true then ⟨(ptext l).toArray⟩ else ⟨#[]⟩) := by
  unfold spec_PiecesText.f
  rw [pieces_eq l hl hk, Option.bind_some]
  by_cases h : piecesB l = true
  · have hv := piecesB_at h
    rw [if_pos h, if_pos h]
    unfold spec_l04Told.f
    have := told_l0 l hv.1 hr hv.2 l.length k 0 (by omega) (by omega)
    rw [show ((0 : Nat) : Int) = 0 from rfl, List.take_zero] at this
    rw [show (⟨#[]⟩ : ByteArray) = ⟨(ptext []).toArray⟩ from rfl, this]
    rfl
  · rw [if_neg h, if_neg h]
theorem piecesText_ok (l : List LPc) (hn : l.length ≤ 9223372036854775807) (hs : ∀ s ∈ l, s.f0.size ≤ 9223372036854775807) (hr : ∀ x ∈ l, (0 ≤ x.f1 ∧ x.f1 ≤ 255) ∧ (0 ≤ x.f2 ∧ x.f2 ≤ 255)) : laws_FnExactPiecesText.f 1048800 l = some true := by
  unfold laws_FnExactPiecesText.f
  obtain ⟨r, h1, h2⟩ := szP_eq l hn hs (k := 1048800) (by omega)
  rw [h1, Option.bind_some]
  rcases h2 with h2 | ⟨_, h0, hl, hz⟩
  · rw [if_pos h2]
  · have hr2 : ∀ x ∈ l.map toPc, (0 ≤ x.f1 ∧ x.f1 ≤ 255) ∧ (0 ≤ x.f2 ∧ x.f2 ≤ 255) := by
      intro x hx
      obtain ⟨y, hy, rfl⟩ := List.mem_map.1 hx
      exact hr y hy
    have hg : rngP (l.map toPc) = true := by
      unfold rngP
      rw [List.all_eq_true]
      intro x hx
      rw [Bool.and_eq_true, inB_iff, inB_iff]
      exact hr2 x hx
    have hl2 : (l.map toPc).length ≤ 1048576 := by rw [List.length_map]; exact hl
    rw [if_neg (by omega), toP_eq l hl (by omega), Option.bind_some, specText_eq _ hl2 hr2 (by omega), Option.bind_some, Option.bind_some]
    unfold impl_PiecesText.f
    rw [if_pos hg, Option.bind_some, if_pos rfl, Option.bind_some, eqP_self _ hl2 (by omega), Option.bind_some, if_pos rfl]
theorem piecesText_walk (A : Option Addr) (c : Nat) (l : List LPc) (hn : l.length ≤ c) (hm : c ≤ maxLen) (hr : ∀ q ∈ l, q.f0.size ≤ maxLen ∧ (0 ≤ q.f1 ∧ q.f1 ≤ 255) ∧ (0 ≤ q.f2 ∧ q.f2 ≤ 255)) (w : World) (h : Kd.C k45 w A l.length l) (hG : GlobMT w) :
    Calls Tryd.prog 4 #[.slice A l.length c] w fun e w' => e = .returned (.bool true) ∧ Below w.heap.size w w' :=
  laws_FnExactPiecesText.calls 1048800 A c l true w h hn hG (piecesText_ok l (by unfold maxLen at hm; omega) (fun s hs => by have := (hr s hs).1; unfold maxLen at this; omega) (fun x hx => (hr x hx).2))
end Go.Proofs.YthchdlniopmcoaaDoor.Pure
namespace Go.Proofs.YthchdlniopmcoaaDoor.Ext
open Go.RowKit Go.Proofs.YthchdlniopmcoaaDoorW.PrintWords Go.Proofs.YthchdlniopmcoaaDoorW.PrintLast Go.Proofs.YthchdlniopmcoaaDoorW.PrintMore
set_option linter.unusedVariables false
set_option linter.unusedSimpArgs false
section
variable {P : Program} {ops : Array Oper} {rest : List Oper} {o : Oper} {a : Act} {Q : Exit → Act → World → Prop} {W : World}
end
end Go.Proofs.YthchdlniopmcoaaDoor.Ext
namespace Go.Proofs.YthchdlniopmcoaaDoor.Open
open Go.ChangeShapes Go.WideShapes Go.ChangeAt Go.RowKit Go.Proofs.YthchdlniopmcoaaDoor.Ext Go.Proofs.YthchdlniopmcoaaDoorW.PrintWords
set_option linter.unusedVariables false
set_option linter.unusedSimpArgs false
variable {H : Type} {enc : TypeId × Value → H} {P : Program} {w : World} {spare : Nat → Bool} {held : Bool} {t : TypeId}
theorem wf_u8 {y : Int} (h : (Lit.int .u8 y).wf = true) : 0 ≤ y ∧ y ≤ 255 := by simpa [Lit.wf, IntKind.min, IntKind.max, IntKind.signed, IntKind.bits] using h
open Go.ChangeShapes Go.WideShapes Go.ChangeAt Go.RowKit Go.Deep Go.Proofs.YthchdlniopmcoaaDoor.Ext Go.Proofs.YthchdlniopmcoaaDoor.Q Go.Proofs.YthchdlniopmcoaaDoorW.PrintWords
variable {H : Type} {enc : TypeId × Value → H} {P : Program} {w : World} {held : Bool}
instance : Inhabited S45 := ⟨z45⟩
theorem open_pcs {t e : TypeId} {f0 f1 f2 : Field} {v : Value} {d : DataW H} {p : List MemPlace} {b0 : Nat} (ht : P.underlying t = some (.slice e)) (he : P.underlying e = some (.struct #[f0, f1, f2])) (ce : P.cellsOf e = 3) (o0 : f0.offset = 0) (o1 : f1.offset = 1) (o2 : f2.offset = 2) (c0 : P.cellsOf f0.type = 1) (c1 : P.cellsOf f1.type = 1) (c2 : P.cellsOf f2.type = 1)
    (u0 : P.underlying f0.type = some .string) (u1 : P.underlying f1.type = some (.int .u8)) (u2 : P.underlying f2.type = some (.int .u8))
    (hv : Value.okWide P w .any b0 t v) (h : DataW.Trod enc P w 0 (fun _ => true) held t v d p) :
    ∃ (A : Option Addr) (c : Nat) (ps : List S45), v = .slice A ps.length c ∧ ps.length ≤ c ∧ c ≤ maxLen ∧ Kd.C k45 w A ps.length ps ∧ ∀ q ∈ ps, q.f0.size ≤ maxLen ∧ (0 ≤ q.f1 ∧ q.f1 ≤ 255) ∧ (0 ≤ q.f2 ∧ q.f2 ≤ 255) := by
  obtain ⟨a0, len0, cap0, rfl⟩ := okWide_slice ht hv
  obtain ⟨fuel, hf⟩ := h
  rcases open_slice ht hf with ⟨hcs, _⟩ | ⟨a, len, cap, m, n, D, Pl, hcs, hb, hl, hm, hmm, hd, hx⟩
  · simp [Value.cells] at hcs
    obtain ⟨rfl, rfl, rfl⟩ := hcs
    exact ⟨none, 0, [], rfl, Nat.le_refl _, Nat.zero_le _, ⟨rfl, by simp, fun hp => absurd hp (by simp)⟩, by simp⟩
  simp [Value.cells] at hcs
  obtain ⟨rfl, rfl, rfl⟩ := hcs
  have hlm : len0 ≤ m := by rw [hmm]; split <;> omega
  have each : ∀ i, i < len0 → ∃ q : S45, (w.cell? (a.add (i * 3)) = some (.string q.f0) ∧ w.cell? (a.add (i * 3 + 1)) = some (.int .u8 q.f1) ∧ w.cell? (a.add (i * 3 + 2)) = some (.int .u8 q.f2)) ∧ q.f0.size ≤ maxLen ∧ (0 ≤ q.f1 ∧ q.f1 ≤ 255) ∧ (0 ≤ q.f2 ∧ q.f2 ≤ 255) := by
    intro i hi
    obtain ⟨cs', h1, h2⟩ := hx i (by omega)
    rw [ce] at h1
    obtain ⟨_, hlen, hcell⟩ := World.cells?_some h1
    obtain ⟨xs, k, hk, hxy, _, hxl, hf⟩ := DataW.trod_struct he h2
    match xs, hxl, cs', hlen with
    | [y0, y1, y2], _, [v0, v1, v2], _ =>
      have g0 := hf 0 f0 rfl
      have g1 := hf 1 f1 rfl
      have g2 := hf 2 f2 rfl
      simp [o0, o1, o2, c0, c1, c2] at g0 g1 g2
      obtain ⟨z0, q0, _, w0⟩ := DataW.trod_string u0 g0
      obtain ⟨z1, q1, _, w1⟩ := DataW.trod_int u1 g1
      obtain ⟨z2, q2, _, w2⟩ := DataW.trod_int u2 g2
      obtain rfl : v0 = .string z0 := by simpa using q0
      obtain rfl : v1 = .int .u8 z1 := by simpa using q1
      obtain rfl : v2 = .int .u8 z2 := by simpa using q2
      have e0 := hcell 0 (by omega)
      have e1 := hcell 1 (by omega)
      have e2 := hcell 2 (by omega)
      rw [Deep.add_add] at e0 e1 e2
      exact ⟨⟨z0, z1, z2⟩, ⟨by simpa using e0, by simpa using e1, by simpa using e2⟩, w0, wf_u8 w1, wf_u8 w2⟩
  obtain ⟨q, hq⟩ := choose_lt each
  refine ⟨some a, cap0, (List.range len0).map q, by simp, by simpa using hl, hm, ⟨by simp, by simp; unfold maxLen at hm; omega, fun hp => ⟨a, rfl, fun j p hj => ?_⟩⟩, ?_⟩
  · obtain ⟨hlt, rfl⟩ := List.getElem?_eq_some_iff.1 hj
    have hjl : j < len0 := by simpa using hlt
    obtain ⟨⟨h0, h1, h2⟩, _⟩ := hq j hjl
    refine ⟨[.string (q j).f0, .int .u8 (q j).f1, .int .u8 (q j).f2], rfl, by simpa using k45_mk w (q j), fun i u hi => ?_⟩
    match i, hi with
    | 0, hi => simp at hi; subst hi; exact h0
    | 1, hi => simp at hi; subst hi; exact h1
    | 2, hi => simp at hi; subst hi; exact h2
  · intro p hp
    rw [List.mem_map] at hp
    obtain ⟨j, hj, rfl⟩ := hp
    exact (hq j (by simpa using hj)).2
end Go.Proofs.YthchdlniopmcoaaDoor.Open
