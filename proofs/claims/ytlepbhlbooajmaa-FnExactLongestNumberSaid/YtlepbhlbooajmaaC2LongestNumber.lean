/- Contracts and plain laws of functions of the given program; no conditions beside those in the theorems. -/
import Derived.Test.YtlepbhlbooajmaaC1LongestNumber
import Derived.Test.YtlepbhlbooajmaaWTab
namespace Go.Proofs.Ytlepbhlbooajmaa.Ext
end Go.Proofs.Ytlepbhlbooajmaa.Ext
namespace Go.Proofs.Ytlepbhlbooajmaa.Q
open Go.Proofs.Ytlepbhlbooajmaa.Ext
open Go.RowKit Go.Proofs.YtlepbhlbooajmaaW.PrintWords Go.Proofs.YtlepbhlbooajmaaW.PrintLast Go.Proofs.YtlepbhlbooajmaaW.PrintMore
attribute [local go_sem] max2_int min2_int max_two min_two max_three min_three max_four min_four
set_option linter.unusedVariables false
set_option linter.unusedSimpArgs false
def cmp_Or_int.l0 : Nat → Int → List Int → Int → Int → Option (Int)
 | 0, _, _, _, _ => none
 | k + 1, x3, x6, x7, x8 => if x8 < x7 then (if 0 ≤ x8 then (if x8 < (x6.length : Int) then (if (rd x6 x8) = x3 then (cmp_Or_int.l0 k x3 x6 x7 (wrap64 (x8 + 1))) else (some (rd x6 x8))) else (none)) else (none)) else (some x3)
def cmp_Or_int.f (k : Nat) (l0 : List Int) : Option (Int) := cmp_Or_int.l0 k 0 l0 (l0.length : Int) 0
set_option maxHeartbeats 8000000 in
set_option maxRecDepth 100000 in
theorem cmp_Or_int.calls (k : Nat) (A0 : Option Addr) (c0 : Nat) (l0 : List Int) (r : Int) (w : World) (hr0 : Kd.C (Kd.int .i64) w A0 l0.length l0) (hc0 : l0.length ≤ c0) (h : cmp_Or_int.f k l0 = some r) :
  Calls Try.prog 78 #[.slice A0 l0.length c0] w fun e w' => e = .returned (.int .i64 r) ∧ Drawn0 w w' := by
 have HR0 := Aside0.mk hr0
 have HC0 := Aside0.mk hc0
 clear hr0 hc0
 have H : (cmp_Or_int.l0 k 0 l0 (l0.length : Int) 0) = some r := h
 clear h
 have H' := Aside0.mk H
 clear H
 go_enter Try.func78, Try.ntmps78
 go_wp2
 go_loopg [8] k (fun kq v8 w' => ∃ (x8_1 : Int), v8 = .int .i64 x8_1 ∧ Aside0 (cmp_Or_int.l0 kq 0 l0 (l0.length : Int) x8_1 = some r) ∧ Aside0 (kq ≤ k) ∧ Drawn0 w w')
 case atStart => exact ⟨(0), (by first | rfl | (simp; done) | (simp [*]; done)), H', ⟨Nat.le_refl _⟩, by repeat (first | exact Drawn0.refl _ | apply Drawn0.step)⟩
 case round =>
  clear H'
  obtain ⟨x8_1, rfl, HA, HK1, ⟨m1, rfl⟩⟩ := hrel
  cases gk with
  | zero => exact absurd HA.out (by simp [cmp_Or_int.l0])
  | succ k1 =>
   have H := HA.out
   clear HA
   simp only [cmp_Or_int.l0] at H
   by_cases c2 : x8_1 < (l0.length : Int)
   ·rw [if_pos c2] at H
    have c2b0 : decide (x8_1 < (l0.length : Int)) = true := decide_eq_true c2
    clear c2
    by_cases c3 : 0 ≤ x8_1
    ·rw [if_pos c3] at H
     have c3b0 : decide (0 ≤ x8_1) = true := decide_eq_true c3
     clear c3
     by_cases c4 : x8_1 < (l0.length : Int)
     ·rw [if_pos c4] at H
      have c4b0 : decide (x8_1 < (l0.length : Int)) = true := decide_eq_true c4
      clear c4
      by_cases c5 : (rd l0 x8_1) = 0
      ·rw [if_pos c5] at H
       have c5b0 : ((rd l0 x8_1) == 0) = true := beq_iff_eq.mpr c5
       have c5b1 : ((rd l0 x8_1) != 0) = false := bne_eq_false_iff_eq.mpr c5
       clear c5
       have H' := Aside0.mk H
       clear H
       have p244 : 0 ≤ (x8_1 : Int) := of_decide_eq_true (by first | (with_reducible assumption) | assumption)
       have q244 : x8_1 < (l0.length : Int) := of_decide_eq_true (by first | (with_reducible assumption) | assumption)
       obtain ⟨ad244, e244, hx244_0⟩ := Kd.at_int HR0.out x8_1 p244 q244
       cases e244
       replace p244 := eq_true p244
       replace q244 := eq_true q244
       go_wp2
       go_roundg k1
       case measure => have := HK1.out; omega
       case rel => exact ⟨(wrap64 (x8_1 + 1)), (by first | rfl | (simp; done) | (simp [*]; done)), H', ⟨by have := HK1.out; omega⟩, by repeat (first | exact Drawn0.refl _ | apply Drawn0.step)⟩
      ·rw [if_neg c5] at H
       have c5b0 : ((rd l0 x8_1) == 0) = false := beq_eq_false_iff_ne.mpr c5
       have c5b1 : ((rd l0 x8_1) != 0) = true := bne_iff_ne.mpr c5
       obtain rfl := Option.some.inj H
       have p244 : 0 ≤ (x8_1 : Int) := of_decide_eq_true (by first | (with_reducible assumption) | assumption)
       have q244 : x8_1 < (l0.length : Int) := of_decide_eq_true (by first | (with_reducible assumption) | assumption)
       obtain ⟨ad244, e244, hx244_0⟩ := Kd.at_int HR0.out x8_1 p244 q244
       cases e244
       replace p244 := eq_true p244
       replace q244 := eq_true q244
       go_wp2
       go_ret
       exact ⟨by first | rfl | (simp; done) | (simp [*]; done), by repeat (first | exact Drawn0.refl _ | apply Drawn0.step)⟩
     ·rw [if_neg c4] at H
      exact absurd H (by simp)
    ·rw [if_neg c3] at H
     exact absurd H (by simp)
   ·rw [if_neg c2] at H
    have c2b0 : decide (x8_1 < (l0.length : Int)) = false := decide_eq_false c2
    clear c2
    obtain rfl := Option.some.inj H
    go_wp2
    go_ret
    exact ⟨by first | rfl | (simp; done) | (simp [*]; done), by repeat (first | exact Drawn0.refl _ | apply Drawn0.step)⟩
def cmp_isNaN_uint8.f (a0 : Int) : Option (Bool) := some (a0 != a0)
set_option maxHeartbeats 8000000 in
set_option maxRecDepth 100000 in
theorem cmp_isNaN_uint8.calls (a0 : Int) (r : Bool) (w : World) (h : cmp_isNaN_uint8.f a0 = some r) :
  Calls Try.prog 85 #[.int .u8 a0] w fun e w' => e = .returned (.bool r) ∧ Drawn0 w w' := by
 have H : (some (a0 != a0)) = some r := h
 clear h
 obtain rfl := Option.some.inj H
 go_enter Try.func85, Try.ntmps85
 go_wp2
 go_ret
 exact ⟨by first | rfl | (simp; done) | (simp [*]; done), by repeat (first | exact Drawn0.refl _ | apply Drawn0.step)⟩
def cmp_Compare_uint8.f (a0 : Int) (a1 : Int) : Option (Int) := (cmp_isNaN_uint8.f a0).bind fun t245 => ((cmp_isNaN_uint8.f a1).bind fun t246 => (if t245 = true then (if t246 = true then (some 0) else (some (-1))) else (if t246 = true then (some 1) else (if a0 < a1 then (some (-1)) else (if a0 > a1 then (some 1) else (some 0))))))
set_option maxHeartbeats 8000000 in
set_option maxRecDepth 100000 in
theorem cmp_Compare_uint8.calls (a0 a1 r : Int) (w : World) (h : cmp_Compare_uint8.f a0 a1 = some r) :
  Calls Try.prog 79 #[.int .u8 a0, .int .u8 a1] w fun e w' => e = .returned (.int .i64 r) ∧ Drawn0 w w' := by
 have H : ((cmp_isNaN_uint8.f a0).bind fun t245 => ((cmp_isNaN_uint8.f a1).bind fun t246 => (if t245 = true then (if t246 = true then (some 0) else (some (-1))) else (if t246 = true then (some 1) else (if a0 < a1 then (some (-1)) else (if a0 > a1 then (some 1) else (some 0))))))) = some r := h
 clear h
 replace H := Option.bind_eq_some_iff.mp H
 obtain ⟨t245, A30, H⟩ := H
 (try dsimp only at H)
 have A3 := Aside0.mk A30
 clear A30
 replace H := Option.bind_eq_some_iff.mp H
 obtain ⟨t246, A40, H⟩ := H
 (try dsimp only at H)
 have A4 := Aside0.mk A40
 clear A40
 by_cases c5 : t245 = true
 ·subst c5
  rw [if_pos rfl] at H
  have H1 := H
  clear H
  have H := H1
  clear H1
  by_cases c6 : t246 = true
  ·subst c6
   rw [if_pos rfl] at H
   have H1 := H
   clear H
   have H := H1
   clear H1
   obtain rfl := Option.some.inj H
   go_enter Try.func79, Try.ntmps79
   go_wp2_with (first | ((with_reducible refine gate_callee (f := 85) rfl ?_); refine goesL_ (some 8) rfl rfl Try.func85 (by kernel_rfl) rfl #[.int .u8 a0] rfl (by (try simp only [List.map_toArray, List.map_cons, List.map_nil]); first | done | rfl | (simp only [List.length_drop, List.length_take]; rfl)) ?_; (with_reducible refine (cmp_isNaN_uint8.calls a0 true _ A3.out).mono ?_); rintro e w' ⟨rfl, ⟨nd, rfl⟩⟩; refine ⟨_, rfl, ?_⟩) | ((with_reducible refine gate_callee (f := 85) rfl ?_); refine goesL_ (some 10) rfl rfl Try.func85 (by kernel_rfl) rfl #[.int .u8 a1] rfl (by (try simp only [List.map_toArray, List.map_cons, List.map_nil]); first | done | rfl | (simp only [List.length_drop, List.length_take]; rfl)) ?_; (with_reducible refine (cmp_isNaN_uint8.calls a1 true _ A4.out).mono ?_); rintro e w' ⟨rfl, ⟨nd, rfl⟩⟩; refine ⟨_, rfl, ?_⟩))
   go_ret
   exact ⟨by first | rfl | (simp; done) | (simp [*]; done), by repeat (first | exact Drawn0.refl _ | apply Drawn0.step)⟩
  ·replace c6 := Bool.eq_false_iff.mpr c6
   subst c6
   rw [if_neg (show ¬ (false = true) by decide)] at H
   have H1 := H
   clear H
   have H := H1
   clear H1
   obtain rfl := Option.some.inj H
   go_enter Try.func79, Try.ntmps79
   go_wp2_with (first | ((with_reducible refine gate_callee (f := 85) rfl ?_); refine goesL_ (some 8) rfl rfl Try.func85 (by kernel_rfl) rfl #[.int .u8 a0] rfl (by (try simp only [List.map_toArray, List.map_cons, List.map_nil]); first | done | rfl | (simp only [List.length_drop, List.length_take]; rfl)) ?_; (with_reducible refine (cmp_isNaN_uint8.calls a0 true _ A3.out).mono ?_); rintro e w' ⟨rfl, ⟨nd, rfl⟩⟩; refine ⟨_, rfl, ?_⟩) | ((with_reducible refine gate_callee (f := 85) rfl ?_); refine goesL_ (some 10) rfl rfl Try.func85 (by kernel_rfl) rfl #[.int .u8 a1] rfl (by (try simp only [List.map_toArray, List.map_cons, List.map_nil]); first | done | rfl | (simp only [List.length_drop, List.length_take]; rfl)) ?_; (with_reducible refine (cmp_isNaN_uint8.calls a1 false _ A4.out).mono ?_); rintro e w' ⟨rfl, ⟨nd, rfl⟩⟩; refine ⟨_, rfl, ?_⟩))
   go_ret
   exact ⟨by first | rfl | (simp; done) | (simp [*]; done), by repeat (first | exact Drawn0.refl _ | apply Drawn0.step)⟩
 ·replace c5 := Bool.eq_false_iff.mpr c5
  subst c5
  rw [if_neg (show ¬ (false = true) by decide)] at H
  have H1 := H
  clear H
  have H := H1
  clear H1
  by_cases c7 : t246 = true
  ·subst c7
   rw [if_pos rfl] at H
   have H1 := H
   clear H
   have H := H1
   clear H1
   obtain rfl := Option.some.inj H
   go_enter Try.func79, Try.ntmps79
   go_wp2_with (first | ((with_reducible refine gate_callee (f := 85) rfl ?_); refine goesL_ (some 8) rfl rfl Try.func85 (by kernel_rfl) rfl #[.int .u8 a0] rfl (by (try simp only [List.map_toArray, List.map_cons, List.map_nil]); first | done | rfl | (simp only [List.length_drop, List.length_take]; rfl)) ?_; (with_reducible refine (cmp_isNaN_uint8.calls a0 false _ A3.out).mono ?_); rintro e w' ⟨rfl, ⟨nd, rfl⟩⟩; refine ⟨_, rfl, ?_⟩) | ((with_reducible refine gate_callee (f := 85) rfl ?_); refine goesL_ (some 10) rfl rfl Try.func85 (by kernel_rfl) rfl #[.int .u8 a1] rfl (by (try simp only [List.map_toArray, List.map_cons, List.map_nil]); first | done | rfl | (simp only [List.length_drop, List.length_take]; rfl)) ?_; (with_reducible refine (cmp_isNaN_uint8.calls a1 true _ A4.out).mono ?_); rintro e w' ⟨rfl, ⟨nd, rfl⟩⟩; refine ⟨_, rfl, ?_⟩))
   go_ret
   exact ⟨by first | rfl | (simp; done) | (simp [*]; done), by repeat (first | exact Drawn0.refl _ | apply Drawn0.step)⟩
  ·replace c7 := Bool.eq_false_iff.mpr c7
   subst c7
   rw [if_neg (show ¬ (false = true) by decide)] at H
   have H1 := H
   clear H
   have H := H1
   clear H1
   by_cases c8 : a0 < a1
   ·rw [if_pos c8] at H
    have c8b0 : decide (a0 < a1) = true := decide_eq_true c8
    clear c8
    obtain rfl := Option.some.inj H
    go_enter Try.func79, Try.ntmps79
    go_wp2_with (first | ((with_reducible refine gate_callee (f := 85) rfl ?_); refine goesL_ (some 8) rfl rfl Try.func85 (by kernel_rfl) rfl #[.int .u8 a0] rfl (by (try simp only [List.map_toArray, List.map_cons, List.map_nil]); first | done | rfl | (simp only [List.length_drop, List.length_take]; rfl)) ?_; (with_reducible refine (cmp_isNaN_uint8.calls a0 false _ A3.out).mono ?_); rintro e w' ⟨rfl, ⟨nd, rfl⟩⟩; refine ⟨_, rfl, ?_⟩) | ((with_reducible refine gate_callee (f := 85) rfl ?_); refine goesL_ (some 10) rfl rfl Try.func85 (by kernel_rfl) rfl #[.int .u8 a1] rfl (by (try simp only [List.map_toArray, List.map_cons, List.map_nil]); first | done | rfl | (simp only [List.length_drop, List.length_take]; rfl)) ?_; (with_reducible refine (cmp_isNaN_uint8.calls a1 false _ A4.out).mono ?_); rintro e w' ⟨rfl, ⟨nd, rfl⟩⟩; refine ⟨_, rfl, ?_⟩))
    go_ret
    exact ⟨by first | rfl | (simp; done) | (simp [*]; done), by repeat (first | exact Drawn0.refl _ | apply Drawn0.step)⟩
   ·rw [if_neg c8] at H
    have c8b0 : decide (a0 < a1) = false := decide_eq_false c8
    clear c8
    by_cases c9 : a0 > a1
    ·rw [if_pos c9] at H
     have c9b0 : decide (a1 < a0) = true := decide_eq_true c9
     clear c9
     obtain rfl := Option.some.inj H
     go_enter Try.func79, Try.ntmps79
     go_wp2_with (first | ((with_reducible refine gate_callee (f := 85) rfl ?_); refine goesL_ (some 8) rfl rfl Try.func85 (by kernel_rfl) rfl #[.int .u8 a0] rfl (by (try simp only [List.map_toArray, List.map_cons, List.map_nil]); first | done | rfl | (simp only [List.length_drop, List.length_take]; rfl)) ?_; (with_reducible refine (cmp_isNaN_uint8.calls a0 false _ A3.out).mono ?_); rintro e w' ⟨rfl, ⟨nd, rfl⟩⟩; refine ⟨_, rfl, ?_⟩) | ((with_reducible refine gate_callee (f := 85) rfl ?_); refine goesL_ (some 10) rfl rfl Try.func85 (by kernel_rfl) rfl #[.int .u8 a1] rfl (by (try simp only [List.map_toArray, List.map_cons, List.map_nil]); first | done | rfl | (simp only [List.length_drop, List.length_take]; rfl)) ?_; (with_reducible refine (cmp_isNaN_uint8.calls a1 false _ A4.out).mono ?_); rintro e w' ⟨rfl, ⟨nd, rfl⟩⟩; refine ⟨_, rfl, ?_⟩))
     go_ret
     exact ⟨by first | rfl | (simp; done) | (simp [*]; done), by repeat (first | exact Drawn0.refl _ | apply Drawn0.step)⟩
    ·rw [if_neg c9] at H
     have c9b0 : decide (a1 < a0) = false := decide_eq_false c9
     clear c9
     obtain rfl := Option.some.inj H
     go_enter Try.func79, Try.ntmps79
     go_wp2_with (first | ((with_reducible refine gate_callee (f := 85) rfl ?_); refine goesL_ (some 8) rfl rfl Try.func85 (by kernel_rfl) rfl #[.int .u8 a0] rfl (by (try simp only [List.map_toArray, List.map_cons, List.map_nil]); first | done | rfl | (simp only [List.length_drop, List.length_take]; rfl)) ?_; (with_reducible refine (cmp_isNaN_uint8.calls a0 false _ A3.out).mono ?_); rintro e w' ⟨rfl, ⟨nd, rfl⟩⟩; refine ⟨_, rfl, ?_⟩) | ((with_reducible refine gate_callee (f := 85) rfl ?_); refine goesL_ (some 10) rfl rfl Try.func85 (by kernel_rfl) rfl #[.int .u8 a1] rfl (by (try simp only [List.map_toArray, List.map_cons, List.map_nil]); first | done | rfl | (simp only [List.length_drop, List.length_take]; rfl)) ?_; (with_reducible refine (cmp_isNaN_uint8.calls a1 false _ A4.out).mono ?_); rintro e w' ⟨rfl, ⟨nd, rfl⟩⟩; refine ⟨_, rfl, ?_⟩))
     go_ret
     exact ⟨by first | rfl | (simp; done) | (simp [*]; done), by repeat (first | exact Drawn0.refl _ | apply Drawn0.step)⟩
def impl_comparePair.f (k : Nat) (F0 F1 G0 G1 : Int) : Option (Int) := if 0 < 2 then ((cmp_Compare_uint8.f (rd [F0, F1] 0) (rd [G0, G1] 0)).bind fun t249 => (if 1 < 2 then ((cmp_Compare_uint8.f (rd [F0, F1] 1) (rd [G0, G1] 1)).bind fun t250 => ((cmp_Or_int.f k (([t249, t250] : List Int))).bind fun t254 => (some t254))) else (none))) else (none)
def impl_comparePair.T1 : Bool × List (List Nat × List Nat) := (true, [([], []), ([0], [0]), ([], []), ([2], [2]), ([1, 3], [1, 3]), ([], []), ([5], [5]), ([], []), ([7], [7]), ([6, 8, 4], [6, 8]), ([4, 9], [4, 9]), ([10, 9], [10]), ([11, 11, 0, 1, 2, 3, 4, 5, 6, 7, 8, 9, 10, 11], [11])])
def impl_comparePair.B1 : List Nat := [0, 1, 0, 4, 15, 0, 32, 0, 128, 511, 1023, 2047, 4095]
theorem impl_comparePair.tab1 : rtab .any (opsOf Try.f64 1) = impl_comparePair.T1 := by kernel_rfl
theorem impl_comparePair.bits1 : waitsOk impl_comparePair.T1.2 impl_comparePair.B1 = true := by kernel_rfl
set_option maxHeartbeats 8000000 in
set_option maxRecDepth 100000 in
theorem impl_comparePair.calls (k : Nat) (F0 F1 G0 G1 r : Int) (w : World) (h : impl_comparePair.f k F0 F1 G0 G1 = some r) :
  Calls Try.prog 64 #[.agg #[.int .u8 F0, .int .u8 F1], .agg #[.int .u8 G0, .int .u8 G1]] w fun e w' => e = .returned (.int .i64 r) ∧ Below w.heap.size w w' := by
 have hu104 := Try.underlying104
 have HB := Aside0.mk (Below.refl w.heap.size w)
 have H : (if 0 < 2 then ((cmp_Compare_uint8.f (rd [F0, F1] 0) (rd [G0, G1] 0)).bind fun t249 => (if 1 < 2 then ((cmp_Compare_uint8.f (rd [F0, F1] 1) (rd [G0, G1] 1)).bind fun t250 => ((cmp_Or_int.f k (([t249, t250] : List Int))).bind fun t254 => (some t254))) else (none))) else (none)) = some r := h
 clear h
 by_cases c3 : 0 < 2
 ·rw [if_pos c3] at H
  have c3b0 : decide (0 < 2) = true := decide_eq_true c3
  clear c3
  replace H := Option.bind_eq_some_iff.mp H
  obtain ⟨t249, A40, H⟩ := H
  (try dsimp only at H)
  have A4 := Aside0.mk A40
  clear A40
  by_cases c5 : 1 < 2
  ·rw [if_pos c5] at H
   have c5b0 : decide (1 < 2) = true := decide_eq_true c5
   clear c5
   replace H := Option.bind_eq_some_iff.mp H
   obtain ⟨t250, A60, H⟩ := H
   (try dsimp only at H)
   have A6 := Aside0.mk A60
   clear A60
   obtain ⟨y251, hy251⟩ : ∃ y_ : List Int, y_ = (([t249, t250] : List Int)) := ⟨_, rfl⟩
   replace H : ((cmp_Or_int.f k y251).bind fun t254 => (some t254)) = some r := by first | (rw [hy251]; with_reducible exact H) | (have H2_ := (Option.bind_some _ _).symm.trans H; rw [hy251]; with_reducible exact H2_) | (have H2_ := (Option.bind_some _ _).symm.trans H; with_reducible exact H2_) | with_reducible exact H | (rw [hy251]; exact H) | exact H
   have Ny251 := Aside0.mk hy251
   clear hy251
   replace H := Option.bind_eq_some_iff.mp H
   obtain ⟨t254, A70, H⟩ := H
   replace H : (some t254) = some r := H
   have A7 := Aside0.mk A70
   clear A70
   obtain rfl := Option.some.inj H
   go_enter Try.func64, Try.ntmps64
   try go_wp2_with (first | ((with_reducible refine gate_dst (N := 2) rfl ?_); refine box_event ?hg (N := 2) ?hd (cs := #[.int .u8 F0, .int .u8 F1]) (t := 104) ?hr ?_; (case hd => rfl); (case hg => rfl); (case hr => first | (go_simp; done) | (go_simp; rfl)); intro gb247 hg w8 hbox hb; have n0_ := Aside0.mk (below_step (by repeat (first | (with_reducible first | exact HB.out | apply bwA | apply pwN | apply bw1) | exact HB.out)) hb); have n1_ := Aside0.mk (hbox); have n2_ := Aside0.mk ((by rw [hg]; exact (below_size (by repeat (first | (with_reducible first | exact HB.out | apply bwA | apply pwN | apply bw1) | exact HB.out))) : w.heap.size ≤ gb247)); have n3_ := Aside0.mk (n2_.out); clear HB; have HB := n0_; have BK247 := n1_; have GW247 := n2_; have GE247 := n3_; clear n0_ n1_ n2_ n3_; clear hb hbox hg) | ((with_reducible refine gate_dst (N := 3) rfl ?_); refine box_event ?hg (N := 3) ?hd (cs := #[.int .u8 G0, .int .u8 G1]) (t := 104) ?hr ?_; (case hd => rfl); (case hg => rfl); (case hr => first | (go_simp; done) | (go_simp; rfl)); intro gb248 hg w9 hbox hb; have n0_ := Aside0.mk (blk_below (g := gb247) (by (with_reducible repeat (first | refine blk_drewN ?_ _ | refine blk_drew ?_ | refine blk_alloc ?_ _)); exact BK247.out) hb); have n1_ := Aside0.mk (below_step (by repeat (first | (with_reducible first | exact HB.out | apply bwA | apply pwN | apply bw1 | refine below_set ?_ GE247.out) | exact HB.out)) hb); have n2_ := Aside0.mk (hbox); have n3_ := Aside0.mk ((by rw [hg]; exact (below_size (by repeat (first | (with_reducible first | exact HB.out | apply bwA | apply pwN | apply bw1 | refine below_set ?_ GE247.out) | exact HB.out))) : w.heap.size ≤ gb248)); have n4_ := Aside0.mk (n3_.out); have n5_ := Aside0.mk ((by rw [hg]; exact Nat.ne_of_lt (blk_lt (g := gb247) (by (with_reducible repeat (first | refine blk_drewN ?_ _ | refine blk_drew ?_ | refine blk_alloc ?_ _)); exact BK247.out)) : gb247 ≠ gb248)); have n6_ := Aside0.mk ((Ne.symm n5_.out)); clear BK247; clear HB; have BK247 := n0_; have HB := n1_; have BK248 := n2_; have GW248 := n3_; have GE248 := n4_; have NB247_248 := n5_; have NB248_247 := n6_; clear n0_ n1_ n2_ n3_ n4_ n5_ n6_; clear hb hbox hg))
   have n0_ := Aside0.mk (blk_drew BK247.out)
   have n1_ := Aside0.mk (blk_drew BK248.out)
   have n2_ := Aside0.mk (bw1 HB.out)
   clear BK247
   clear BK248
   clear HB
   have BK247 := n0_
   have BK248 := n1_
   have HB := n2_
   clear n0_ n1_ n2_
   have hpx11 : 0 ≤ (0 : Int) := (by first | omega | exact of_decide_eq_true (by first | (with_reducible assumption) | assumption))
   have hqx11 : (0 : Int) < (2 : Int) := (by first | omega | exact of_decide_eq_true (by first | (with_reducible assumption) | assumption))
   have hpx12 : 0 ≤ (0 : Int) := (by first | omega | exact of_decide_eq_true (by first | (with_reducible assumption) | assumption))
   have hqx12 : (0 : Int) < (2 : Int) := (by first | omega | exact of_decide_eq_true (by first | (with_reducible assumption) | assumption))
   have hpx13 : 0 ≤ (1 : Int) := (by first | omega | exact of_decide_eq_true (by first | (with_reducible assumption) | assumption))
   have hqx13 : (1 : Int) < (2 : Int) := (by first | omega | exact of_decide_eq_true (by first | (with_reducible assumption) | assumption))
   have hpx14 : 0 ≤ (1 : Int) := (by first | omega | exact of_decide_eq_true (by first | (with_reducible assumption) | assumption))
   have hqx14 : (1 : Int) < (2 : Int) := (by first | omega | exact of_decide_eq_true (by first | (with_reducible assumption) | assumption))
   refine start_ (n := 13) (S := fun w' => w'.cell? ⟨gb247, 0, none⟩ = some (.int .u8 (rd [F0, F1] 0)) ∧ w'.cell? ⟨gb248, 0, none⟩ = some (.int .u8 (rd [G0, G1] 0)) ∧ w'.cell? ⟨gb247, 1, none⟩ = some (.int .u8 (rd [F0, F1] 1)) ∧ w'.cell? ⟨gb248, 1, none⟩ = some (.int .u8 (rd [G0, G1] 1))) (ds := []) #[false, false, false, false, false, false, false, false, false, false, false, false, false] (by kernel_rfl) rfl rfl ⟨((blk_cell BK247.out _).trans (arrx0_ .u8 [F0, F1] [] (0 : Int) hpx11 hqx11)), ((blk_cell BK248.out _).trans (arrx0_ .u8 [G0, G1] [] (0 : Int) hpx12 hqx12)), ((blk_cell BK247.out _).trans (arrx0_ .u8 [F0, F1] [] (1 : Int) hpx13 hqx13)), ((blk_cell BK248.out _).trans (arrx0_ .u8 [G0, G1] [] (1 : Int) hpx14 hqx14))⟩ (fun hHeld => ?_); refine with_tabW impl_comparePair.tab1 impl_comparePair.bits1 (fun HT_ HW_ => ?_)
   generalize w9.drew = w10 at BK247 BK248 HB hHeld ⊢
   refine pu_ 0 (some 5) HT_ ?_
   refine pu_ 2 (some 7) HT_ ?_
   refine pu_ 5 (some 10) HT_ ?_
   refine pu_ 7 (some 12) HT_ ?_
   refine tk_ 1 (some 6) HT_ HW_ hHeld rfl (by rintro w' ⟨s0, s1, s2, s3⟩; go_simp; with_reducible rfl) ?_
   refine tk_ 3 (some 8) HT_ HW_ hHeld rfl (by rintro w' ⟨s0, s1, s2, s3⟩; go_simp; with_reducible rfl) ?_
   refine tk_ 6 (some 11) HT_ HW_ hHeld rfl (by rintro w' ⟨s0, s1, s2, s3⟩; go_simp; with_reducible rfl) ?_
   refine tk_ 8 (some 13) HT_ HW_ hHeld rfl (by rintro w' ⟨s0, s1, s2, s3⟩; go_simp; with_reducible rfl) ?_
   refine on_ 4 (some 9) HT_ fun K hK => ?_
   refine goes_ Try.func79 (by kernel_rfl) rfl #[.int .u8 (rd [F0, F1] 0), .int .u8 (rd [G0, G1] 0)] (by rfl) rfl rfl (by (try simp only [List.map_toArray, List.map_cons, List.map_nil]); first | done | rfl | (simp only [List.length_drop, List.length_take]; rfl)) ?_
   with_reducible refine (cmp_Compare_uint8.calls (rd [F0, F1] 0) (rd [G0, G1] 0) t249 _ A4.out).mono ?_
   rintro e w' ⟨rfl, ⟨nd, rfl⟩⟩
   refine ⟨_, rfl, ?_⟩
   refine hK.out _ _ ⟨((blk_cell BK247.out _).trans (arrx0_ .u8 [F0, F1] [] (0 : Int) hpx11 hqx11)), ((blk_cell BK248.out _).trans (arrx0_ .u8 [G0, G1] [] (0 : Int) hpx12 hqx12)), ((blk_cell BK247.out _).trans (arrx0_ .u8 [F0, F1] [] (1 : Int) hpx13 hqx13)), ((blk_cell BK248.out _).trans (arrx0_ .u8 [G0, G1] [] (1 : Int) hpx14 hqx14))⟩ (fun hHeld => ?_)
   clear hK K
   refine nm_ (some 9) ?_
   refine on_ 9 (some 14) HT_ fun K hK => ?_
   refine goes_ Try.func79 (by kernel_rfl) rfl #[.int .u8 (rd [F0, F1] 1), .int .u8 (rd [G0, G1] 1)] (by rfl) rfl rfl (by (try simp only [List.map_toArray, List.map_cons, List.map_nil]); first | done | rfl | (simp only [List.length_drop, List.length_take]; rfl)) ?_
   with_reducible refine (cmp_Compare_uint8.calls (rd [F0, F1] 1) (rd [G0, G1] 1) t250 _ A6.out).mono ?_
   rintro e w' ⟨rfl, ⟨nd, rfl⟩⟩
   refine ⟨_, rfl, ?_⟩
   refine hK.out _ _ ⟨((blk_cell BK247.out _).trans (arrx0_ .u8 [F0, F1] [] (0 : Int) hpx11 hqx11)), ((blk_cell BK248.out _).trans (arrx0_ .u8 [G0, G1] [] (0 : Int) hpx12 hqx12)), ((blk_cell BK247.out _).trans (arrx0_ .u8 [F0, F1] [] (1 : Int) hpx13 hqx13)), ((blk_cell BK248.out _).trans (arrx0_ .u8 [G0, G1] [] (1 : Int) hpx14 hqx14))⟩ (fun hHeld => ?_)
   clear hK K
   refine nm_ (some 14) ?_
   refine on_ 10 (some 15) HT_ fun K hK => ?_
   refine Kd.R_lit_step (Kd.int .i64) _ 3 ?hg (N := 15) ?hd (xs := ([t249, t250] : List Int)) (inner := [.int .i64 t249, .int .i64 t250]) (ok := fun _ => True) (okp := fun _ => True) ?hr ?hp (fun _ hk => hk) trivial (Below.refl _ _) (Nat.le_refl _) (by simp) ?_; (case hd => rfl); (case hg => rfl); (case hr => first | (go_simp; done) | (go_simp; rfl)); (case hp => exact (Reps.one (show Kd.M (Kd.int .i64) _ _ _ t249 [.int .i64 t249] from rfl) (Reps.one (show Kd.M (Kd.int .i64) _ _ _ t250 [.int .i64 t250] from rfl) (Reps.none _ _))))
   intro v252 w15 ho16 hb hg_ hnew_
   clear hg_ hnew_
   (first | rw [← Ny251.out] at ho16 | (simp only [Int.reduceToNat] at ho16; rw [← Ny251.out] at ho16))
   have n0_ := Aside0.mk (Kd.R_lower ho16 (below_size (by repeat (first | (with_reducible first | exact HB.out | apply bwA | apply pwN | apply bw1 | refine below_set ?_ GE247.out | refine below_set ?_ GE248.out) | exact HB.out))))
   have n1_ := Aside0.mk (blk_below (g := gb247) (by (with_reducible repeat (first | refine blk_drewN ?_ _ | refine blk_drew ?_ | refine blk_alloc ?_ _)); exact BK247.out) hb)
   have n2_ := Aside0.mk (blk_below (g := gb248) (by (with_reducible repeat (first | refine blk_drewN ?_ _ | refine blk_drew ?_ | refine blk_alloc ?_ _)); exact BK248.out) hb)
   have n3_ := Aside0.mk (below_step (by repeat (first | (with_reducible first | exact HB.out | apply bwA | apply pwN | apply bw1 | refine below_set ?_ GE247.out | refine below_set ?_ GE248.out) | exact HB.out)) hb)
   clear BK247
   clear BK248
   clear HB
   have HO253 := n0_
   have BK247 := n1_
   have BK248 := n2_
   have HB := n3_
   clear n0_ n1_ n2_ n3_
   clear hb ho16
   obtain ⟨Ao17, co17, eo17⟩ := Kd.R_slice HO253.out
   (first | subst eo17 | (injection eo17 with f1_ f2_ f3_; have f4_ := f1_.symm; have f5_ := f3_.symm; clear f1_ f2_ f3_; subst f4_; subst f5_))
   refine hK.out _ _ ⟨((blk_cell BK247.out _).trans (arrx0_ .u8 [F0, F1] [] (0 : Int) hpx11 hqx11)), ((blk_cell BK248.out _).trans (arrx0_ .u8 [G0, G1] [] (0 : Int) hpx12 hqx12)), ((blk_cell BK247.out _).trans (arrx0_ .u8 [F0, F1] [] (1 : Int) hpx13 hqx13)), ((blk_cell BK248.out _).trans (arrx0_ .u8 [G0, G1] [] (1 : Int) hpx14 hqx14))⟩ (fun hHeld => ?_)
   clear hK K
   refine nm_ (some 15) ?_
   refine on_ 11 (some 16) HT_ fun K hK => ?_
   refine goes_ Try.func78 (by kernel_rfl) rfl #[.slice Ao17 y251.length co17] (by rfl) rfl rfl (by (try simp only [List.map_toArray, List.map_cons, List.map_nil]); first | done | rfl | (simp only [List.length_drop, List.length_take]; rfl)) ?_
   with_reducible refine (cmp_Or_int.calls k _ _ y251 t254 _ ?side1 ?side2 A7.out).mono ?_
   (case side1 => repeat (first | exact (Kd.R_reads' HO253.out).2.2 | (with_reducible refine Kd.C_alloc ?_ _) | (with_reducible refine Kd.C_drewN ?_ _) | (with_reducible refine Kd.C_drew ?_)))
   (case side2 => exact (Kd.R_reads' HO253.out).2.1)
   rintro e w' ⟨rfl, ⟨nd, rfl⟩⟩
   refine ⟨_, rfl, ?_⟩
   refine hK.out _ _ ⟨((blk_cell BK247.out _).trans (arrx0_ .u8 [F0, F1] [] (0 : Int) hpx11 hqx11)), ((blk_cell BK248.out _).trans (arrx0_ .u8 [G0, G1] [] (0 : Int) hpx12 hqx12)), ((blk_cell BK247.out _).trans (arrx0_ .u8 [F0, F1] [] (1 : Int) hpx13 hqx13)), ((blk_cell BK248.out _).trans (arrx0_ .u8 [G0, G1] [] (1 : Int) hpx14 hqx14))⟩ (fun hHeld => ?_)
   clear hK K
   refine nm_ (some 16) ?_
   refine pu_ 12 (some 4) HT_ ?_
   refine done_ (done_of HT_.out (by kernel_rfl)) ?_
   try go_wp2
   go_ret
   exact ⟨by first | rfl | (simp [errW_none, errW_some, i64_w]; done) | (simp [errW_none, errW_some] <;> rfl) | (simp [*, errW_none, errW_some] <;> rfl), by repeat (first | (with_reducible first | exact HB.out | apply bwA | apply pwN | apply bw1 | refine below_set ?_ GE247.out | refine below_set ?_ GE248.out) | exact HB.out)⟩
  ·rw [if_neg c5] at H
   exact absurd H (by simp)
 ·rw [if_neg c3] at H
  exact absurd H (by simp)
end Go.Proofs.Ytlepbhlbooajmaa.Q
namespace Go.Proofs.Ytlepbhlbooajmaa.Ext
open Go.RowKit Go.Proofs.Ytlepbhlbooajmaa.Q Go.Proofs.YtlepbhlbooajmaaW.PrintWords Go.Proofs.YtlepbhlbooajmaaW.PrintLast Go.Proofs.YtlepbhlbooajmaaW.PrintMore
set_option linter.unusedVariables false
set_option linter.unusedSimpArgs false
theorem iletter_calls (x : Int) (w : World) : Calls Try.prog 62 #[.int .u8 x] w fun e w' => e = .returned (.bool (ltrB x)) ∧ w = w' := by
 unfold ltrB
 by_cases h : 65 ≤ x
 ·have h1 : decide (65 ≤ x) = true := by simpa using h
  go_enter Try.func62, Try.ntmps62
  go_wp2
  go_ret
  exact ⟨by simp [h], rfl⟩
 ·have h1 : decide (65 ≤ x) = false := by simpa using h
  go_enter Try.func62, Try.ntmps62
  go_wp2
  go_ret
  exact ⟨by simp [h], rfl⟩
theorem iletter_as (x : Int) (w : World) {b : Bool} (h : ltrB x = b) : Calls Try.prog 62 #[.int .u8 x] w fun e w' => e = .returned (.bool b) ∧ w = w' := by
 subst h; exact iletter_calls x w
theorem within_as (a b c : Int) (w : World) {r : Bool} (h : inB a b c = r) : Calls Try.prog 32 #[.int .i64 a, .int .i64 b, .int .i64 c] w fun e w' => e = .returned (.bool r) ∧ w = w' := by
 subst h; exact within_calls a b c w
theorem sizeS_calls (A : Option Addr) (n c : Nat) (w : World) : Calls Try.prog 59 #[.slice A n c] w fun e w' => e = .returned (.int .i64 n) ∧ w = w' := by
 go_enter Try.func59, Try.ntmps59
 go_wp2
 go_ret
 exact ⟨rfl, rfl⟩
theorem cmpP_eq (z0 z1 x0 x1 : Int) : ∃ r, impl_comparePair.f 9 z0 z1 x0 x1 = some r ∧ decide (0 ≤ r) = ordB ⟨z0, z1⟩ ⟨x0, x1⟩ := by
 have hc : ∀ a b : Int, cmp_Compare_uint8.f a b = some (if a < b then -1 else if b < a then 1 else 0) := fun a b => by
  unfold cmp_Compare_uint8.f cmp_isNaN_uint8.f
  simp only [bne_self_eq_false, Option.bind_some, Bool.false_eq_true, if_false, GT.gt]
  repeat' split
  all_goals rfl
 have ho : ∀ a b : Int, cmp_Or_int.f 9 [a, b] = some (if a = 0 then b else a) := fun a b => by
  unfold cmp_Or_int.f
  have e1 : wrap64 1 = 1 := by unfold wrap64; omega
  have e2 : wrap64 2 = 2 := by unfold wrap64; omega
  by_cases ha : a = 0
  ·by_cases hb : b = 0
   ·subst ha hb; simp [cmp_Or_int.l0, rd, e1, e2]
   ·simp [cmp_Or_int.l0, rd, ha, hb, e1]
  ·simp [cmp_Or_int.l0, rd, ha]
 unfold impl_comparePair.f
 have h12 : (1 : Int) < 2 := by omega
 have h02 : (0 : Int) < 2 := by omega
 simp only [hc, ho, Option.bind_some, h12, h02, if_true]
 refine ⟨_, rfl, ?_⟩
 show decide (0 ≤ (if (if z0 < x0 then (-1 : Int) else if x0 < z0 then 1 else 0) = 0 then (if z1 < x1 then (-1 : Int) else if x1 < z1 then 1 else 0) else (if z0 < x0 then (-1 : Int) else if x0 < z0 then 1 else 0))) = _
 unfold ordB
 dsimp only
 by_cases h1 : z0 < x0
 ·have a1 : ¬ z0 > x0 := by omega
  have a2 : ¬ z0 = x0 := by omega
  simp [h1, a1, a2]
 ·by_cases h2 : x0 < z0
  ·simp [h1, h2]
  ·have : z0 = x0 := by omega
   subst this
   by_cases h3 : z1 < x1
   ·have a1 : ¬ z1 ≥ x1 := by omega
    simp [h3, a1]
   ·have a1 : z1 ≥ x1 := by omega
    by_cases h4 : x1 < z1 <;> simp [h3, h4, a1]
def validTab.T13 : Bool × List (List Nat × List Nat) := (true, [([], []), ([], []), ([1], [1]), ([0, 2], [0, 2]), ([], []), ([], []), ([5], [5]), ([4, 6, 3], [4, 6]), ([3, 7, 0, 1, 2, 3], [3]), ([7, 8, 0, 1, 2, 3, 4, 5, 6, 7, 8], [7])])
def validTab.B13 : List Nat := [0, 0, 2, 7, 0, 0, 32, 127, 255, 511]
theorem validTab.tab13 : rtab .any (opsOf Try.f31 13) = validTab.T13 := by kernel_rfl
theorem validTab.bits13 : waitsOk validTab.T13.2 validTab.B13 = true := by kernel_rfl
def validTab.T14 : Bool × List (List Nat × List Nat) := (true, [([], []), ([0], [0]), ([1], [1]), ([2], [2]), ([2], [2]), ([3, 4, 2], [2, 3, 4]), ([2, 5], [2, 5]), ([6, 2], [6]), ([7], [7]), ([8, 7], [7, 8]), ([9, 7, 7], [7, 9]), ([10], [10]), ([11, 10], [10, 11]), ([10], [10]), ([13, 10], [10, 13]), ([12, 14, 10], [10, 12, 14]), ([15, 10], [10, 15]), ([10], [10]), ([16, 17, 10, 10], [10, 16, 17]), ([18, 10], [10, 18]), ([10, 19, 7], [7, 10, 19]), ([7, 20], [7, 20])])
def validTab.B14 : List Nat := [0, 1, 3, 7, 7, 31, 63, 127, 255, 511, 1023, 2047, 4095, 2047, 10239, 32767, 65535, 2047, 262143, 524287, 1048575, 2097151]
theorem validTab.tab14 : rtab .any (opsOf Try.f31 14) = validTab.T14 := by kernel_rfl
theorem validTab.bits14 : waitsOk validTab.T14.2 validTab.B14 = true := by kernel_rfl
set_option maxHeartbeats 4000000 in
set_option maxRecDepth 100000 in
theorem validSys_calls (A0 A1 : Option Addr) (c0 c1 : Nat) (l0 : List Sg) (l1 : List P2) (w : World)
  (hr0 : Kd.C k102 w A0 l0.length l0) (hc0 : l0.length ≤ c0) (hr1 : Kd.C k104 w A1 l1.length l1) (hc1 : l1.length ≤ c1) (hw : wfSys l0 l1) :
  Calls Try.prog 31 #[.agg #[.slice A0 l0.length c0, .slice A1 l1.length c1]] w fun e w' => e = .returned (.bool (sysB l0 l1)) ∧ Below w.heap.size w w' := by
 have HR0 := Aside0.mk hr0
 have HC0 := Aside0.mk hc0
 clear hc0
 have HR1 := Aside0.mk hr1
 have HC1 := Aside0.mk hc1
 clear hc1
 have HW := Aside0.mk hw
 have HG := Aside0.mk (blk_new w (.cells #[.slice A0 l0.length c0, .slice A1 l1.length c1] 31 (0, 0)))
 have HX := Aside0.mk ((Below.refl w.heap.size w).alloc (Nat.le_refl _) (.cells #[.slice A0 l0.length c0, .slice A1 l1.length c1] 31 (0, 0)))
 clear hr0 hr1 hw
 go_enter Try.func31, Try.ntmps31
 go_wp2_with fail
 revert HG HX
 generalize (w.alloc (Obj.cells #[.slice A0 l0.length c0, .slice A1 l1.length c1] 31)) = v
 intro HG HX
 have hs0 : v.cell? ⟨w.heap.size, 0, none⟩ = some (.slice A0 l0.length c0) := (blk_cell HG.out 0).trans rfl
 have hs1 : v.cell? ⟨w.heap.size, 1, none⟩ = some (.slice A1 l1.length c1) := (blk_cell HG.out 1).trans rfl
 refine (sizeS_calls A0 l0.length c0 v).mono ?_
 rintro e w' ⟨rfl, rfl⟩
 go_wp2_with fail
 cases hq : inB (l0.length : Int) 1 8 with
 | false =>
  refine (within_as _ _ _ _ hq).mono ?_
  rintro e w' ⟨rfl, rfl⟩
  have HQ := Aside0.mk hq
  clear hq
  go_wp2_with fail
  go_ret
  refine ⟨?_, HX.out⟩
  rw [sysB_top (by unfold topB; rw [decide_eq_false (by have := HQ.out; unfold inB at this; simp at this; omega)]; rfl)]
  rfl
 | true =>
  have hlen : 1 ≤ l0.length ∧ l0.length ≤ 8 := by have := hq; unfold inB at this; simp at this; omega
  refine (within_as _ _ _ _ hq).mono ?_
  rintro e w' ⟨rfl, rfl⟩
  clear hq
  have HLEN := Aside0.mk hlen
  clear hlen
  cases h8 : decide ((8 : Int) < (l1.length : Int)) with
  | true =>
   have H8 := Aside0.mk (of_decide_eq_true h8)
   go_wp2_with fail
   go_ret
   refine ⟨?_, HX.out⟩
   rw [sysB_top (by unfold topB; rw [decide_eq_false (p := l1.length ≤ 8) (by have := H8.out; omega)]; simp)]
   rfl
  | false =>
   have H8 : Aside0 (l1.length ≤ 8) := ⟨by have := of_decide_eq_false h8; omega⟩
   obtain ⟨ad, rfl, hc⟩ := sgn_cells HR0.out HX.out (by have := HLEN.out; omega)
   have HS := Aside0.mk hc
   clear hc
   obtain ⟨m, hm⟩ : ∃ m, l0.length = m + 1 := ⟨l0.length - 1, by have := HLEN.out; omega⟩
   have HM := Aside0.mk hm
   have hsub : wrap64 ((l0.length : Int) - 1) = (m : Int) := by unfold wrap64; have := HLEN.out; omega
   have hm0 : (m : Int) < (l0.length : Int) := by omega
   have hx1 := (HS.out m (by omega)).2
   clear hm
   generalize hy : (sgAt l0 m).f1 = y1 at hx1
   have HY := Aside0.mk hy
   clear hy
   cases hq3 : (y1 == 1) with
   | false =>
    have HQ := Aside0.mk hq3
    have hq4 : (y1 != 1) = true := by rw [bne, hq3]; rfl
    go_wp2_with fail
    go_ret
    refine ⟨?_, HX.out⟩
    rw [sysB_top (by unfold topB; rw [show l0.length - 1 = m from by rw [HM.out]; rfl, HY.out, HQ.out]; simp)]
    rfl
   | true =>
    have HT : Aside0 (topB l0 l1 = true) := ⟨by unfold topB; rw [show l0.length - 1 = m from by rw [HM.out]; rfl, HY.out, hq3, decide_eq_true HLEN.out, decide_eq_true H8.out]; rfl⟩
    have hq4 : (y1 != 1) = false := by rw [bne, hq3]; rfl
    go_wp2_with fail
    clear hx1 hq3 hq4 hsub hm0 HY HM h8
    have HS0 := Aside0.mk hs0
    have HS1 := Aside0.mk hs1
    clear hs0 hs1
    go_loopg [36] l0.length (fun gg s36 wr => ∃ kk : Nat, kk ≤ l0.length ∧ l0.length - kk ≤ gg ∧ s36 = .int .i64 kk ∧ Aside0 (Below v.heap.size v wr) ∧ Aside0 (∀ j, j < kk → signB l0 j = true))
    case atStart => exact ⟨0, by omega, by omega, rfl, ⟨Below.refl _ _⟩, ⟨fun j hj => absurd hj (Nat.not_lt_zero _)⟩⟩
    case round =>
     obtain ⟨kk, hkk, hgk, rfl, HB, AS⟩ := hrel
     by_cases hlt : kk < l0.length
     ·have hltz : (kk : Int) < (l0.length : Int) := by omega
      have hl8 := HLEN.out.2
      have hkc : kk ≤ c0 := by have := HC0.out; omega
      have hkci : (kk : Int) ≤ (c0 : Int) := by omega
      have hs0 := cellB_ HB.out HS0.out
      have hx0 := cellB_ HB.out (HS.out kk hlt).1
      have hx1 := cellB_ HB.out (HS.out kk hlt).2
      have hwy := HW.out.1 _ (sgAt_mem hlt)
      generalize hy : sgAt l0 kk = y at hx0 hx1 hwy
      have HY := Aside0.mk hy
      clear hy
      obtain ⟨y0, y1⟩ := y
      dsimp only at hx0 hx1 hwy
      have hs07 : (wr.alloc (Obj.cells #[Value.int .u8 y0, Value.int .i16 y1] 102)).cell? ⟨w.heap.size, 0, none⟩ = some (.slice (some ad) l0.length c0) := by rw [World.cell?_alloc_some _ _ _ (by rw [hs0]; rfl)]; exact hs0
      go_wp2_with fail
      have B7 := Aside0.mk (blk_new wr (.cells #[.int .u8 y0, .int .i16 y1] 102 (0, 0)))
      have HB7 := Aside0.mk (HB.out.alloc HB.out.size (.cells #[.int .u8 y0, .int .i16 y1] 102 (0, 0)))
      clear hs0 hs07 hx0 hx1
      generalize hW : (wr.alloc (Obj.cells #[Value.int .u8 y0, Value.int .i16 y1] 102)) = W7 at B7 HB7
      clear hW
      have hm0 : W7.cell? ⟨wr.heap.size, 0, none⟩ = some (.int .u8 y0) := (blk_cell B7.out 0).trans rfl
      have hm1 : W7.cell? ⟨wr.heap.size, 1, none⟩ = some (.int .i16 y1) := (blk_cell B7.out 1).trans rfl
      have hcf := containsFunc_sg 61 #[.pointer (some ⟨wr.heap.size, 0, none⟩)] (fun y => y.f0 == y0) (fun _ _ => rfl) (some ad) c0 (l0.take kk) W7 (pred_same wr.heap.size y0 W7 hm0) (Kd.C_take (Kd.C_below HR0.out (below_step HX.out HB7.out)) (by omega))
      rw [show (l0.take kk).length = kk from by rw [List.length_take]; omega] at hcf
      have hdup : (l0.take kk).any (fun y => y.f0 == y0) = dupB l0 kk := by unfold dupB; rw [HY.out]
      rw [hdup] at hcf
      refine hcf.mono ?_
      rintro e w8 ⟨rfl, hd⟩
      have HB8 := Aside0.mk (below_step HB7.out hd)
      have hn0 : w8.cell? ⟨wr.heap.size, 0, none⟩ = some (.int .u8 y0) := (blk_cell (blk_below B7.out hd) 0).trans rfl
      have hn1 : w8.cell? ⟨wr.heap.size, 1, none⟩ = some (.int .i16 y1) := (blk_cell (blk_below B7.out hd) 1).trans rfl
      have hs0 := cellB_ HB8.out HS0.out
      clear hcf hd hdup hm0 hm1 hkc hkci
      have hwr : wrap64 y1 = y1 := by unfold wrap64; omega
      have HWI : Aside0 (IntKind.i64.wrap y1 = y1) := ⟨by simp [IntKind.wrap, IntKind.signed, IntKind.bits]; omega⟩
      clear hwy
      cases hS : dupB l0 kk
      ·go_wp2_with fail
       cases hA : ltrB y0
       ·go_quiet (first | (go_at_call 62; exact q_same (iletter_as _ _ hA)))
        have HA := Aside0.mk hA
        clear hA
        go_wp2_with fail
        go_ret
        refine ⟨?_, below_step HX.out (by repeat (first | exact HB8.out | apply bwA | apply pwN | apply bw1))⟩
        rw [sysB_sign hlt (by unfold signB; unfold letB; rw [HY.out]; have := HA.out; unfold ltrB at this; rw [this]; rfl)]
        rfl
       ·cases hC : inB y1 1 5000
        ·have HC3 : Aside0 (inB (IntKind.i64.wrap y1) 1 5000 = false) := ⟨by rw [HWI.out]; exact hC⟩
         go_quiet (first | (go_at_call 62; exact q_same (iletter_as _ _ hA)) | (go_at_call 32; exact q_same (within_as _ _ _ _ HC3.out)) | (go_at_call 32; exact q_same (within_as _ _ _ _ hC)))
         have HC := Aside0.mk hC
         clear hA hC
         go_wp2_with fail
         go_ret
         refine ⟨?_, below_step HX.out (by repeat (first | exact HB8.out | apply bwA | apply pwN | apply bw1))⟩
         rw [sysB_sign hlt (by unfold signB; unfold rngB; rw [HY.out]; have := HC.out; unfold inB at this; rw [this]; simp)]
         rfl
        ·have HC3 : Aside0 (inB (IntKind.i64.wrap y1) 1 5000 = true) := ⟨by rw [HWI.out]; exact hC⟩
         have HLR : Aside0 ((letB (sgAt l0 kk) && rngB (sgAt l0 kk)) = true) := ⟨by unfold letB rngB; rw [HY.out]; have h1 := hA; have h2 := hC; unfold ltrB at h1; unfold inB at h2; rw [h1, h2]; rfl⟩
         cases hP : decide (0 < kk)
         ·have hPi : decide ((0 : Int) < (kk : Int)) = false := decide_eq_false (by have := of_decide_eq_false hP; omega)
          have HU : Aside0 (upB l0 kk = false) := ⟨by unfold upB; rw [hP]; rfl⟩
          have HSS := Aside0.mk hS
          go_quiet (first | (go_at_call 62; exact q_same (iletter_as _ _ hA)) | (go_at_call 32; exact q_same (within_as _ _ _ _ HC3.out)) | (go_at_call 32; exact q_same (within_as _ _ _ _ hC)))
          clear hA hC hP hPi hs0 hS
          have HSG : Aside0 (signB l0 kk = true) := ⟨by unfold signB; rw [HSS.out, HU.out, HLR.out]; rfl⟩
          clear hwr
          go_wp2_with fail
          go_roundg (l0.length - (kk + 1))
          case measure => omega
          case rel =>
           refine ⟨kk + 1, by omega, by omega, by go_num, ⟨(by repeat (first | exact HB8.out | apply bwA | apply pwN | apply bw1))⟩, ⟨fun j hj => ?_⟩⟩
           by_cases e : j = kk
           ·subst e; exact HSG.out
           ·exact AS.out j (by omega)
         ·have hk0 : 0 < kk := of_decide_eq_true hP
          have hPi : decide ((0 : Int) < (kk : Int)) = true := decide_eq_true (by omega)
          obtain ⟨p, hp⟩ : ∃ p, p = kk - 1 := ⟨_, rfl⟩
          have hsub : wrap64 ((kk : Int) - 1) = (p : Int) := by unfold wrap64; omega
          have hpn : (p : Int) < (l0.length : Int) := by omega
          have hp1 := cellB_ HB8.out (HS.out p (by omega)).2
          generalize hz : (sgAt l0 p).f1 = z1 at hp1
          have hb1 : (1 : Int) ≤ (kk : Int) := by omega
          have hb2 : (kk : Int) - 1 < (l0.length : Int) := by omega
          have hq1 : w8.cell? ⟨(ad.add ((kk - 1) * 2)).block, (ad.add ((kk - 1) * 2)).off + 1, none⟩ = some (.int .i16 z1) := by rw [← hp]; exact hp1
          have HZ := Aside0.mk hz
          have HP := Aside0.mk hp
          have HK0 := Aside0.mk hk0
          clear hz hp hk0
          cases hD : decide (z1 ≤ y1)
          ·have HU : Aside0 (upB l0 kk = false) := ⟨by unfold upB; rw [← HP.out, HZ.out, HY.out]; rw [show decide (y1 ≥ z1) = false from hD]; simp⟩
           have HSS := Aside0.mk hS
           go_quiet (first | (go_at_call 62; exact q_same (iletter_as _ _ hA)) | (go_at_call 32; exact q_same (within_as _ _ _ _ HC3.out)) | (go_at_call 32; exact q_same (within_as _ _ _ _ hC)))
           clear hA hC hP hPi hs0 hS hD hp1 hsub hpn hb1 hb2 hq1 HZ HP HK0
           have HSG : Aside0 (signB l0 kk = true) := ⟨by unfold signB; rw [HSS.out, HU.out, HLR.out]; rfl⟩
           clear hwr
           go_wp2_with fail
           go_roundg (l0.length - (kk + 1))
           case measure => omega
           case rel =>
            refine ⟨kk + 1, by omega, by omega, by go_num, ⟨(by repeat (first | exact HB8.out | apply bwA | apply pwN | apply bw1))⟩, ⟨fun j hj => ?_⟩⟩
            by_cases e : j = kk
            ·subst e; exact HSG.out
            ·exact AS.out j (by omega)
          ·have HU : Aside0 (upB l0 kk = true) := ⟨by unfold upB; rw [← HP.out, HZ.out, HY.out, decide_eq_true HK0.out]; rw [show decide (y1 ≥ z1) = true from hD]; rfl⟩
           go_quiet (first | (go_at_call 62; exact q_same (iletter_as _ _ hA)) | (go_at_call 32; exact q_same (within_as _ _ _ _ HC3.out)) | (go_at_call 32; exact q_same (within_as _ _ _ _ hC)))
           clear hA hC hP hD
           go_wp2_with fail
           go_ret
           refine ⟨?_, below_step HX.out (by repeat (first | exact HB8.out | apply bwA | apply pwN | apply bw1))⟩
           rw [sysB_sign hlt (by unfold signB; rw [HU.out]; simp)]
           rfl
      ·have HSS := Aside0.mk hS
       go_wp2_with fail
       cases hA : ltrB y0
       ·go_quiet (first | (go_at_call 62; exact q_same (iletter_as _ _ hA)))
        clear hA
        go_wp2_with fail
        go_ret
        refine ⟨?_, below_step HX.out (by repeat (first | exact HB8.out | apply bwA | apply pwN | apply bw1))⟩
        rw [sysB_sign hlt (by unfold signB; rw [HSS.out]; simp)]
        rfl
       ·go_quiet (first | (go_at_call 62; exact q_same (iletter_as _ _ hA)))
        clear hA
        go_wp2_with fail
        go_ret
        refine ⟨?_, below_step HX.out (by repeat (first | exact HB8.out | apply bwA | apply pwN | apply bw1))⟩
        rw [sysB_sign hlt (by unfold signB; rw [HSS.out]; simp)]
        rfl
     ·have hltz : ¬ (kk : Int) < (l0.length : Int) := by omega
      obtain rfl : kk = l0.length := by omega
      have hs1 := cellB_ HB.out HS1.out
      go_wp2_with fail
      clear hs1
      go_loopg [81] l1.length (fun gg s81 wr => ∃ k2 : Nat, k2 ≤ l1.length ∧ l1.length - k2 ≤ gg ∧ s81 = .int .i64 k2 ∧ Aside0 (Below v.heap.size v wr) ∧ Aside0 (∀ j, j < k2 → minB l0 l1 j = true))
      case atStart => exact ⟨0, by omega, by omega, rfl, HB, ⟨fun j hj => absurd hj (Nat.not_lt_zero _)⟩⟩
      case round =>
       clear HB
       have hl8 := H8.out
       have hl0 := HLEN.out.2
       obtain ⟨k2, hk2, hg2, rfl, HB, AM⟩ := hrel
       by_cases hl2 : k2 < l1.length
       ·have hltz : (k2 : Int) < (l1.length : Int) := by omega
        obtain ⟨am, rfl, hcm⟩ := min_cells HR1.out HX.out (by omega)
        have hx0 := cellB_ HB.out (hcm k2 hl2).1
        have hx1 := cellB_ HB.out (hcm k2 hl2).2
        have HCM := Aside0.mk hcm
        clear hcm
        generalize hy : p2At l1 k2 = y at hx0 hx1
        have HY := Aside0.mk hy
        clear hy
        obtain ⟨y0, y1⟩ := y
        dsimp only at hx0 hx1
        go_wp2_with fail
        have B7 := Aside0.mk (blk_new wr (.cells #[.int .u8 y0, .int .u8 y1] 104 (0, 0)))
        have HB7 := Aside0.mk (HB.out.alloc HB.out.size (.cells #[.int .u8 y0, .int .u8 y1] 104 (0, 0)))
        generalize hW : (wr.alloc (Obj.cells #[Value.int .u8 y0, Value.int .u8 y1] 104)) = W7 at B7 HB7
        clear hW hx0 hx1
        have hm0 : W7.cell? ⟨wr.heap.size, 0, none⟩ = some (.int .u8 y0) := (blk_cell B7.out 0).trans rfl
        have hm1 : W7.cell? ⟨wr.heap.size, 1, none⟩ = some (.int .u8 y1) := (blk_cell B7.out 1).trans rfl
        have hs0 := cellB_ HB7.out HS0.out
        have hs1 := cellB_ HB7.out HS1.out
        have HBW := Aside0.mk (below_step HX.out HB7.out)
        have HVA : Aside0 (impl_System_value.f 9 l0 l1 y0 = some (valS l0 y0)) := ⟨value_eq l1 HW.out.1 (by omega) y0 (by omega)⟩
        have HVB : Aside0 (impl_System_value.f 9 l0 l1 y1 = some (valS l0 y1)) := ⟨value_eq l1 HW.out.1 (by omega) y1 (by omega)⟩
        generalize ha : valS l0 y0 = a at HVA
        have HA := Aside0.mk ha
        clear ha
        generalize hb : valS l0 y1 = b at HVB
        have HBV := Aside0.mk hb
        clear hb
        refine start_ (n := 10) (S := fun w' => w'.cell? ⟨w.heap.size, 0, none⟩ = some (.slice (some ad) l0.length c0) ∧ w'.cell? ⟨w.heap.size, 1, none⟩ = some (.slice (some am) l1.length c1) ∧ w'.cell? ⟨wr.heap.size, 0, none⟩ = some (.int .u8 y0) ∧ w'.cell? ⟨wr.heap.size, 1, none⟩ = some (.int .u8 y1)) (ds := [7]) #[false, false, false, false, false, false, false, false, false, false] (by kernel_rfl) rfl rfl ⟨hs0, hs1, hm0, hm1⟩ (fun hHeld => ?_)
        refine with_tabW validTab.tab13 validTab.bits13 (fun HT_ HW_ => ?_)
        refine pu_ 1 (some 87) HT_ ?_
        refine pu_ 5 (some 91) HT_ ?_
        refine tk_ 0 (some 86) HT_ HW_ hHeld rfl (by rintro w' ⟨s0, s1, s2, s3⟩; go_simp; with_reducible rfl) ?_
        refine tk_ 2 (some 88) HT_ HW_ hHeld rfl (by rintro w' ⟨s0, s1, s2, s3⟩; go_simp; with_reducible rfl) ?_
        refine tk_ 4 (some 90) HT_ HW_ hHeld rfl (by rintro w' ⟨s0, s1, s2, s3⟩; go_simp; with_reducible rfl) ?_
        refine tk_ 6 (some 92) HT_ HW_ hHeld rfl (by rintro w' ⟨s0, s1, s2, s3⟩; go_simp; with_reducible rfl) ?_
        refine on_ 3 (some 89) HT_ fun K hK => ?_
        refine goes_ Try.func63 (by kernel_rfl) rfl #[.agg #[.slice (some ad) l0.length c0, .slice (some am) l1.length c1], .int .u8 y0] (by rfl) rfl rfl (by simp only [List.map_toArray, List.map_cons, List.map_nil]; rfl) ?_
        with_reducible refine (impl_System_value.calls 9 (some ad) c0 l0 (some am) c1 l1 y0 a _ (Kd.C_below HR0.out (bw1 HBW.out)) HC0.out (Kd.C_below HR1.out (bw1 HBW.out)) HC1.out HVA.out).mono ?_
        rintro e w3 ⟨rfl, hb3⟩
        refine ⟨_, rfl, ?_⟩
        refine hK.out _ _ ⟨cellB_ hb3 (hHeld.1), cellB_ hb3 (hHeld.2.1), cellB_ hb3 (hHeld.2.2.1), cellB_ hb3 (hHeld.2.2.2)⟩ (fun hHeld => ?_)
        clear hK K
        refine nm_ (some 89) ?_
        refine la_ 7 (some 93) HT_ fun K hK => ?_
        refine goes_ Try.func63 (by kernel_rfl) rfl #[.agg #[.slice (some ad) l0.length c0, .slice (some am) l1.length c1], .int .u8 y1] (by rfl) rfl rfl (by simp only [List.map_toArray, List.map_cons, List.map_nil]; rfl) ?_
        with_reducible refine (impl_System_value.calls 9 (some ad) c0 l0 (some am) c1 l1 y1 b _ (Kd.C_below HR0.out (below_step (bw1 HBW.out) hb3)) HC0.out (Kd.C_below HR1.out (below_step (bw1 HBW.out) hb3)) HC1.out HVB.out).mono ?_
        rintro e w5 ⟨rfl, hb5⟩
        refine ⟨_, rfl, ?_⟩
        refine hK.out _ _ ?_
        clear hK K
        refine nm_ (some 93) ?_
        refine pu_ 8 (some 8) HT_ ?_
        refine pu_ 9 (some 9) HT_ ?_
        refine done_ (done_of HT_.out (by kernel_rfl)) ?_
        have HB9 := Aside0.mk (below_step (below_step (bw1 HB7.out) hb3) hb5)
        have B9 := Aside0.mk (blk_below (blk_below (blk_drew B7.out) hb3) hb5)
        have HM0 : Aside0 (w5.cell? ⟨wr.heap.size, 0, none⟩ = some (.int .u8 y0)) := ⟨(blk_cell B9.out 0).trans rfl⟩
        have HM1 : Aside0 (w5.cell? ⟨wr.heap.size, 1, none⟩ = some (.int .u8 y1)) := ⟨(blk_cell B9.out 1).trans rfl⟩
        clear hb3 hb5 hHeld hm0 hm1 hs0 hs1 HBW B7 B9 HVA HVB
        cases h0 : (a == 0)
        ·cases hle : decide (b ≤ a)
         ·have HMV : Aside0 (mvB l0 ⟨y0, y1⟩ = true) := ⟨by unfold mvB; dsimp only; rw [HA.out, HBV.out, h0, hle]; rfl⟩
          cases k2 with
          | zero =>
           have HMB : Aside0 (minB l0 l1 0 = true) := ⟨by unfold minB; rw [HY.out, HMV.out]; rfl⟩
           clear HY
           have hP0 : decide ((0 : Int) < ((0 : Nat) : Int)) = false := rfl
           go_wp2_with fail
           go_quiet (fail)
           clear h0 hle hP0
           go_wp2_with fail
           go_roundg (l1.length - (0 + 1))
           case measure => omega
           case rel =>
            refine ⟨0 + 1, by omega, by omega, by go_num, ⟨(by repeat (first | exact HB9.out | apply bwA | apply pwN | apply bw1))⟩, ⟨fun j hj => ?_⟩⟩
            obtain rfl : j = 0 := by omega
            exact HMB.out
          | succ m =>
           have hpos : decide ((0 : Int) < ((m + 1 : Nat) : Int)) = true := decide_eq_true (by omega)
           have hsub : ((m + 1 : Nat) : Int) - 1 = (m : Int) := by omega
           have hwm : wrap64 (m : Int) = (m : Int) := by unfold wrap64; omega
           have hml : (m : Int) < (l1.length : Int) := by omega
           have hp0 := cellB_ HB9.out (HCM.out m (by omega)).1
           have hp1 := cellB_ HB9.out (HCM.out m (by omega)).2
           obtain ⟨z, hz⟩ : ∃ z, z = p2At l1 m := ⟨_, rfl⟩
           rw [← hz] at hp0 hp1
           have HZ := Aside0.mk hz.symm
           clear hz
           obtain ⟨z0, z1⟩ := z
           dsimp only at hp0 hp1
           have hm0 := HM0.out
           have hm1 := HM1.out
           have hs1 := cellB_ HB9.out HS1.out
           obtain ⟨r, hr, hr2⟩ := cmpP_eq z0 z1 y0 y1
           have HR2 := Aside0.mk hr2
           replace hr := Aside0.mk hr
           clear hr2
           go_wp2_with fail
           refine start_ (n := 22) (S := fun w' => w'.cell? ⟨w.heap.size, 1, none⟩ = some (.slice (some am) l1.length c1) ∧ w'.cell? (am.add (m * 2)) = some (.int .u8 z0) ∧ w'.cell? ⟨(am.add (m * 2)).block, (am.add (m * 2)).off + 1, none⟩ = some (.int .u8 z1) ∧ w'.cell? ⟨wr.heap.size, 0, none⟩ = some (.int .u8 y0) ∧ w'.cell? ⟨wr.heap.size, 1, none⟩ = some (.int .u8 y1)) (ds := [18]) #[false, false, false, false, false, false, false, false, false, false, false, false, false, false, false, false, false, false, false, false, false, false] (by kernel_rfl) rfl rfl ⟨hs1, hp0, hp1, hm0, hm1⟩ (fun hHeld => ?_)
           refine with_tabW validTab.tab14 validTab.bits14 (fun HT_ HW_ => ?_)
           refine pu_ 0 (some 94) HT_ ?_
           refine pu_ 1 (some 95) HT_ ?_
           refine pu_ 2 (some 96) HT_ ?_
           refine pu_ 3 (some 97) HT_ ?_
           refine pu_ 4 (some 98) HT_ ?_
           refine pu_ 5 (some 99) HT_ ?_
           refine pu_ 6 (some 100) HT_ ?_
           refine pu_ 7 (some 101) HT_ ?_
           refine pu_ 8 (some 102) HT_ ?_
           refine pu_ 9 (some 103) HT_ ?_
           refine pu_ 10 (some 104) HT_ ?_
           refine pu_ 11 (some 105) HT_ ?_
           refine pu_ 13 (some 107) HT_ ?_
           refine pu_ 14 (some 108) HT_ ?_
           refine tk_ 12 (some 106) HT_ HW_ hHeld rfl (by rintro w' ⟨s0, s1, s2, s3, s4⟩; go_simp; with_reducible rfl) ?_
           refine pu_ 15 (some 109) HT_ ?_
           refine tk_ 16 (some 110) HT_ HW_ hHeld rfl (by rintro w' ⟨s0, s1, s2, s3, s4⟩; go_simp; with_reducible rfl) ?_
           refine tk_ 17 (some 111) HT_ HW_ hHeld rfl (by rintro w' ⟨s0, s1, s2, s3, s4⟩; go_simp; with_reducible rfl) ?_
           refine la_ 18 (some 112) HT_ fun K hK => ?_
           refine goes_ Try.func64 (by kernel_rfl) rfl #[.agg #[.int .u8 z0, .int .u8 z1], .agg #[.int .u8 y0, .int .u8 y1]] (by rfl) rfl rfl (by simp only [List.map_toArray, List.map_cons, List.map_nil]; rfl) ?_
           with_reducible refine (impl_comparePair.calls 9 z0 z1 y0 y1 r _ hr.out).mono ?_
           rintro e w9 ⟨rfl, hb9⟩
           refine ⟨_, rfl, ?_⟩
           refine hK.out _ _ ?_
           clear hK K
           refine nm_ (some 112) ?_
           refine pu_ 19 (some 113) HT_ ?_
           refine pu_ 20 (some 114) HT_ ?_
           refine pu_ 21 (some 115) HT_ ?_
           refine done_ (done_of HT_.out (by kernel_rfl)) ?_
           have HB19 := Aside0.mk (below_step (bw1 HB9.out) hb9)
           have HMB : Aside0 (minB l0 l1 (m + 1) = !ordB ⟨z0, z1⟩ ⟨y0, y1⟩) := ⟨by unfold minB; rw [HY.out, HMV.out, show m + 1 - 1 = m from rfl, HZ.out]; simp⟩
           clear hb9 hm0 hm1 hs1 hp0 hp1 hHeld h0 hle hpos hsub hwm hml hr
           cases hO : decide (0 ≤ r)
           ·have HO : Aside0 (ordB ⟨z0, z1⟩ ⟨y0, y1⟩ = false) := ⟨HR2.out.symm.trans hO⟩
            go_wp2_with fail
            go_roundg (l1.length - (m + 1 + 1))
            case measure => omega
            case rel =>
             refine ⟨m + 1 + 1, by omega, by omega, by go_num, ⟨(by repeat (first | exact HB19.out | apply bwA | apply pwN | apply bw1))⟩, ⟨fun j hj => ?_⟩⟩
             by_cases e : j = m + 1
             ·subst e; rw [HMB.out, HO.out]; rfl
             ·exact AM.out j (by omega)
           ·have HO : Aside0 (ordB ⟨z0, z1⟩ ⟨y0, y1⟩ = true) := ⟨HR2.out.symm.trans hO⟩
            go_wp2_with fail
            go_ret
            refine ⟨?_, below_step HX.out (by repeat (first | exact HB19.out | apply bwA | apply pwN | apply bw1))⟩
            rw [sysB_min hl2 (by rw [HMB.out, HO.out]; rfl)]
            rfl
         ·have HMV : Aside0 (mvB l0 ⟨y0, y1⟩ = false) := ⟨by unfold mvB; dsimp only; rw [HA.out, HBV.out, hle]; simp⟩
          go_wp2_with fail
          go_quiet (fail)
          clear h0 hle
          go_wp2_with fail
          go_ret
          refine ⟨?_, below_step HX.out (by repeat (first | exact HB9.out | apply bwA | apply pwN | apply bw1))⟩
          rw [sysB_min hl2 (by unfold minB; rw [HY.out, HMV.out]; rfl)]
          rfl
        ·have HMV : Aside0 (mvB l0 ⟨y0, y1⟩ = false) := ⟨by unfold mvB; dsimp only; rw [HA.out, h0]; rfl⟩
         go_wp2_with fail
         go_quiet (fail)
         clear h0
         go_wp2_with fail
         go_ret
         refine ⟨?_, below_step HX.out (by repeat (first | exact HB9.out | apply bwA | apply pwN | apply bw1))⟩
         rw [sysB_min hl2 (by unfold minB; rw [HY.out, HMV.out]; rfl)]
         rfl
       ·have hltz : ¬ (k2 : Int) < (l1.length : Int) := by omega
        obtain rfl : k2 = l1.length := by omega
        go_wp2_with fail
        go_ret
        refine ⟨?_, below_step HX.out HB.out⟩
        rw [sysB_true HT.out AS.out AM.out]
        rfl
def impl_ValidSystem.f (l0_0 : List Sg) (l0_1 : List P2) : Option Bool := if wfSys l0_0 l0_1 then some (sysB l0_0 l0_1) else none
theorem impl_ValidSystem.calls (A0_0 : Option Addr) (c0_0 : Nat) (l0_0 : List Sg) (A0_1 : Option Addr) (c0_1 : Nat) (l0_1 : List P2) (r : Bool) (w : World) (hr0_0 : Kd.C k102 w A0_0 l0_0.length l0_0) (hc0_0 : l0_0.length ≤ c0_0) (hr0_1 : Kd.C k104 w A0_1 l0_1.length l0_1) (hc0_1 : l0_1.length ≤ c0_1) (h : impl_ValidSystem.f l0_0 l0_1 = some r) :
  Calls Try.prog 31 #[.agg #[.slice A0_0 l0_0.length c0_0, .slice A0_1 l0_1.length c0_1]] w fun e w' => e = .returned (.bool r) ∧ Below w.heap.size w w' := by
 unfold impl_ValidSystem.f at h
 split at h
 ·rename_i hw
  obtain rfl := Option.some.inj h
  exact validSys_calls A0_0 A0_1 c0_0 c0_1 l0_0 l0_1 w hr0_0 hc0_0 hr0_1 hc0_1 hw
 ·cases h
abbrev Pt := S81
def sgPart (s : Sg) : Pt := ⟨strOfNums [s.f0], s.f1⟩
def mnPart (l0 : List Sg) (p : P2) : Pt := ⟨strOfNums [p.f0, p.f1], valS l0 p.f1 - valS l0 p.f0⟩
def partsL (l0 : List Sg) (l1 : List P2) : List Pt := l0.map sgPart ++ l1.map (mnPart l0)
theorem take_map_succ {α β : Type} (f : α → β) (l : List α) (z : α) (k : Nat) (h : k < l.length) : (l.take (k + 1)).map f = (l.take k).map f ++ [f (l.getD k z)] := by
 rw [List.take_add_one, List.getElem?_eq_getElem h, Option.toList_some, List.map_append, List.getD_eq_getElem?_getD, List.getElem?_eq_getElem h]
 rfl
theorem conv2 {w : World} {g : Nat} {y0 y1 : Int} (h0 : w.cell? ⟨g, 0, none⟩ = some (.int .u8 y0)) (h1 : w.cell? ⟨g, 1, none⟩ = some (.int .u8 y1)) :
  (convert 106 9 (.slice (some ⟨g, 0, none⟩) 2 2)).run Try.prog w = .ok (.string (strOfNums [y0, y1])) w := by
 refine run_convert_bytes_arg w 106 5 Try.underlying106 Try.underlying5 g 0 2 2 [y0, y1] rfl (fun i hi => ?_) 9 Try.underlying9
 match i, hi with
 | 0, _ => exact h0
 | 1, _ => exact h1
def partsTab.T10 : Bool × List (List Nat × List Nat) := (true, [([], []), ([], []), ([1], [1]), ([], []), ([], []), ([4], [4]), ([3, 5], [3, 5]), ([], []), ([], []), ([8], [8]), ([7, 9, 6], [7, 9]), ([6, 10], [6, 10]), ([2, 11], [2, 11]), ([12], [12]), ([0, 13, 10], [0, 13]), ([14, 14, 0, 1, 2, 3, 4, 5, 6, 7, 8, 9, 10, 11, 12, 13, 14], [0, 14])])
def partsTab.B10 : List Nat := [0, 0, 2, 0, 0, 16, 56, 0, 0, 256, 1016, 2040, 4094, 8190, 16383, 32767]
theorem partsTab.tab10 : rtab .any (opsOf Try.f65 10) = partsTab.T10 := by kernel_rfl
theorem partsTab.bits10 : waitsOk partsTab.T10.2 partsTab.B10 = true := by kernel_rfl
set_option maxHeartbeats 4000000 in
set_option maxRecDepth 100000 in
theorem parts_calls (A0 A1 : Option Addr) (c0 c1 : Nat) (l0 : List Sg) (l1 : List P2) (w : World)
  (hr0 : Kd.C k102 w A0 l0.length l0) (hc0 : l0.length ≤ c0) (hr1 : Kd.C k104 w A1 l1.length l1) (hc1 : l1.length ≤ c1) (hw : wfSys l0 l1) (hl0 : l0.length ≤ 1000) (hl1 : l1.length ≤ 1000) :
  Calls Try.prog 65 #[.agg #[.slice A0 l0.length c0, .slice A1 l1.length c1]] w fun e w' => ∃ v0_ : Value, e = .returned v0_ ∧ Kd.R k81 81 w' w.heap.size (fun _ => True) v0_ (partsL l0 l1) ∧ Below w.heap.size w w' := by
 have hu104 := Try.underlying104
 have HR0 := Aside0.mk hr0
 have HC0 := Aside0.mk hc0
 have HR1 := Aside0.mk hr1
 have HC1 := Aside0.mk hc1
 have HW := Aside0.mk hw
 have HL0 := Aside0.mk hl0
 have HL1 := Aside0.mk hl1
 have HG := Aside0.mk (blk_new w (.cells #[.slice A0 l0.length c0, .slice A1 l1.length c1] 31 (0, 0)))
 have HX := Aside0.mk ((Below.refl w.heap.size w).alloc (Nat.le_refl _) (.cells #[.slice A0 l0.length c0, .slice A1 l1.length c1] 31 (0, 0)))
 clear hr0 hc0 hr1 hc1 hw hl0 hl1
 go_enter Try.func65, Try.ntmps65
 go_wp2_with (first | ((with_reducible refine gate_dst (N := 8) rfl ?_); refine Kd.R_lit k81 _ 81 ?hg (N := 8) ?hd (xs := ([] : List Pt)) (inner := []) (ok := fun _ => True) (okp := fun _ => True) ?hr ?hp (fun _ hk => hk) trivial (Below.refl _ _) (Nat.le_refl _) (by simp) ?_; (case hd => rfl); (case hg => rfl); (case hr => first | (go_simp; done) | (go_simp; rfl)); (case hp => exact (Reps.none _ _)); intro v8 w2 ho hb hg_ hnew_; have HO := Aside0.mk (Kd.R_lower ho HX.out.size); have HB := Aside0.mk (below_step HX.out hb); have HG2 := Aside0.mk (blk_below HG.out hb); have hs0 : w2.cell? ⟨w.heap.size, 0, none⟩ = some (.slice A0 l0.length c0) := (blk_cell HG2.out 0).trans rfl; clear ho hb hg_ hnew_) | fail)
 clear hs0
 go_loopg [3, 12] l0.length (fun gg v3 v12 wr => ∃ kk : Nat, kk ≤ l0.length ∧ l0.length - kk ≤ gg ∧ v12 = .int .i64 kk ∧ Aside0 (Kd.R k81 81 wr w.heap.size (fun _ => True) v3 ((l0.take kk).map sgPart)) ∧ Aside0 (Below w.heap.size w wr) ∧ Aside0 (wr.heap[w.heap.size]? = some (.cells #[.slice A0 l0.length c0, .slice A1 l1.length c1] 31 (0, 0))))
 case atStart => exact ⟨0, Nat.zero_le _, by omega, rfl, HO, HB, HG2⟩
 case round =>
  clear HO HB HG2
  obtain ⟨kk, hkk, hgk, rfl, HO, HB, HG2⟩ := hrel
  by_cases hlt : kk < l0.length
  ·have hltz : (kk : Int) < (l0.length : Int) := by omega
   obtain ⟨ad, rfl, hcs⟩ := sgn_cells HR0.out HB.out (by omega)
   have hx0 := (hcs kk hlt).1
   have hx1 := (hcs kk hlt).2
   clear hcs
   have hwy := HW.out.1 _ (sgAt_mem hlt)
   have HNX := Aside0.mk (take_map_succ sgPart l0 z102 kk hlt)
   rw [show l0.getD kk z102 = sgAt l0 kk from rfl] at HNX
   generalize hy : sgAt l0 kk = y at hx0 hx1 hwy HNX
   clear hy
   obtain ⟨y0, y1⟩ := y
   dsimp only at hx0 hx1 hwy
   have hwr : wrap64 y1 = y1 := by unfold wrap64; omega
   clear hwy
   have hl0' := HL0.out
   go_wp2_with (first | ((with_reducible refine gate_dst (N := 19) rfl ?_); refine Kd.R_lit (Kd.int .u8) _ 5 ?hg (N := 19) ?hd (xs := ([y0] : List Int)) (inner := [.int .u8 y0]) (ok := fun _ => True) (okp := fun _ => True) ?hr ?hp (fun _ hk => hk) trivial (Below.refl _ _) (Nat.le_refl _) (by simp) ?_; (case hd => rfl); (case hg => rfl); (case hr => first | (go_simp; done) | (go_simp; rfl)); (case hp => exact (Reps.one (show Kd.M (Kd.int .u8) _ _ _ y0 [.int .u8 y0] from rfl) (Reps.none _ _))); intro v19 w10 ho hb hg_ hnew_; have n0_ := Aside0.mk (Kd.R_below (by (with_reducible repeat (first | apply Kd.R_alloc | apply Kd.R_drewN | apply Kd.R_drew)); exact HO.out) hb); have n1_ := Aside0.mk (below_step (by repeat (first | (with_reducible first | exact HB.out | apply bwA | apply pwN | apply bw1) | exact HB.out)) hb); have n2_ := Aside0.mk (blk_below (blk_alloc HG2.out _) hb); clear HO HB HG2; have HO := n0_; have HB := n1_; have HG2 := n2_; clear n0_ n1_ n2_; have hm1 : w10.cell? ⟨wr.heap.size, 1, none⟩ = some (.int .i16 y1) := (blk_cell (blk_below (blk_new wr (Obj.cells #[.int .u8 y0, .int .i16 y1] 102 (0, 0))) hb) 1).trans rfl; obtain ⟨Ao19, co19, eo19⟩ := Kd.R_slice ho; subst eo19; have hcv : (convert 106 9 (.slice Ao19 1 co19)).run Try.prog w10 = .ok (.string (strOfNums [y0])) w10 := own_string (P := Try.prog) Try.underlying106 Try.underlying5 Try.underlying9 (Kd.own_of_R ho); clear ho hb hg_ hnew_) | ((with_reducible refine gate_builtin (b := .append) (xs := #[.tmp 16, .tmp 25]) rfl ?_); at_builtin; refine Kd.R_append k81 w.heap.size rfl (.tmp 16) (.tmp 25) 69 81 (.agg #[(.string ⟨#[]⟩), (.int .i64 0)]) 24 rfl Try.underlying69 info81 rfl (by decide) (by omega) u3 ((l0.take kk).map sgPart) (⟨strOfNums [y0], y1⟩ : Pt) [.string (strOfNums [y0]), .int .i64 y1] (fun _ => True) (fun _ => False) rfl rfl ?aP (fun _ hk => hk.elim) ?aF ?aO (Below.refl _ _) ?aS ?aL ?_; (case aP => exact k81_mkM _ _ _ (⟨strOfNums [y0], y1⟩ : Pt)); (case aF => exact (fun _ _ => trivial)); (case aO => exact (by (with_reducible repeat (first | apply Kd.R_alloc | apply Kd.R_drewN | apply Kd.R_drew)); exact HO.out)); (case aS => exact (below_size (by repeat (first | (with_reducible first | exact HB.out | apply bwA | apply pwN | apply bw1) | exact HB.out)))); (case aL => rw [List.length_map, List.length_take]; have := HL0.out; omega); intro v26 w13 ho hb hg hat; have n0_ := Aside0.mk (blk_grown HG2.out hg (Kd.R_ne HO.out HG2.out (by decide))); have n1_ := Aside0.mk (below_weaken (by repeat (first | (with_reducible first | exact HB.out | apply bwA | apply pwN | apply bw1) | exact HB.out)) (Nat.le_refl _) hb); have n2_ := Aside0.mk ho; clear HO HB HG2; have HG2 := n0_; have HB := n1_; have HO := n2_; clear n0_ n1_ n2_ ho hb hg hat) | fail)
   go_roundg (l0.length - (kk + 1))
   case measure => omega
   case rel => exact ⟨kk + 1, by omega, by omega, by go_num, ⟨by rw [HNX.out]; exact (by (with_reducible repeat (first | apply Kd.R_alloc | apply Kd.R_drewN | apply Kd.R_drew)); exact HO.out)⟩, ⟨(by repeat (first | (with_reducible first | exact HB.out | apply bwA | apply pwN | apply bw1) | exact HB.out))⟩, ⟨by (with_reducible repeat (first | refine blk_drewN ?_ _ | refine blk_drew ?_ | refine blk_alloc ?_ _)); exact HG2.out⟩⟩
  ·have hltz : ¬ (kk : Int) < (l0.length : Int) := by omega
   obtain rfl : kk = l0.length := by omega
   rw [List.take_length] at HO
   have hs1 : wr.cell? ⟨w.heap.size, 1, none⟩ = some (.slice A1 l1.length c1) := (blk_cell HG2.out 1).trans rfl
   go_wp2_with fail
   clear hs1
   go_loopg [3, 31] l1.length (fun gg v3 v31 wr => ∃ kk : Nat, kk ≤ l1.length ∧ l1.length - kk ≤ gg ∧ v31 = .int .i64 kk ∧ Aside0 (Kd.R k81 81 wr w.heap.size (fun _ => True) v3 (l0.map sgPart ++ (l1.take kk).map (mnPart l0))) ∧ Aside0 (Below w.heap.size w wr) ∧ Aside0 (wr.heap[w.heap.size]? = some (.cells #[.slice A0 l0.length c0, .slice A1 l1.length c1] 31 (0, 0))))
   case atStart => exact ⟨0, Nat.zero_le _, by omega, rfl, ⟨by rw [List.take_zero, List.map_nil, List.append_nil]; exact HO.out⟩, HB, HG2⟩
   case round =>
    clear HO HB HG2
    obtain ⟨k2, hk2, hg2, rfl, HO, HB, HG2⟩ := hrel
    by_cases hl2 : k2 < l1.length
    ·have hltz : (k2 : Int) < (l1.length : Int) := by omega
     obtain ⟨am, rfl, hcs⟩ := min_cells HR1.out HB.out (by omega)
     have hx0 := (hcs k2 hl2).1
     have hx1 := (hcs k2 hl2).2
     clear hcs
     have HNX := Aside0.mk (take_map_succ (mnPart l0) l1 z104 k2 hl2)
     rw [show l1.getD k2 z104 = p2At l1 k2 from rfl] at HNX
     generalize hy : p2At l1 k2 = y at hx0 hx1 HNX
     clear hy
     obtain ⟨y0, y1⟩ := y
     dsimp only at hx0 hx1
     go_wp2_with fail
     have B7 := Aside0.mk (blk_new wr (.cells #[.int .u8 y0, .int .u8 y1] 104 (0, 0)))
     have HB7 := Aside0.mk (HB.out.alloc HB.out.size (.cells #[.int .u8 y0, .int .u8 y1] 104 (0, 0)))
     have HO7 := Aside0.mk (Kd.R_alloc HO.out (.cells #[.int .u8 y0, .int .u8 y1] 104 (0, 0)))
     have HG7 := Aside0.mk (blk_alloc HG2.out (.cells #[.int .u8 y0, .int .u8 y1] 104 (0, 0)))
     generalize hW : (wr.alloc (Obj.cells #[Value.int .u8 y0, Value.int .u8 y1] 104)) = W7 at B7 HB7 HO7 HG7
     clear hW hx0 hx1 HO HB HG2
     have hm0 : W7.cell? ⟨wr.heap.size, 0, none⟩ = some (.int .u8 y0) := (blk_cell B7.out 0).trans rfl
     have hm1 : W7.cell? ⟨wr.heap.size, 1, none⟩ = some (.int .u8 y1) := (blk_cell B7.out 1).trans rfl
     have hs0 : W7.cell? ⟨w.heap.size, 0, none⟩ = some (.slice A0 l0.length c0) := (blk_cell HG7.out 0).trans rfl
     have hs1 : W7.cell? ⟨w.heap.size, 1, none⟩ = some (.slice (some am) l1.length c1) := (blk_cell HG7.out 1).trans rfl
     have hcv := conv2 hm0 hm1
     have HVA : Aside0 (impl_System_value.f 1001 l0 l1 y1 = some (valS l0 y1)) := ⟨value_eq l1 HW.out.1 (by have := HL0.out; omega) y1 (by have := HL0.out; omega)⟩
     have HVB : Aside0 (impl_System_value.f 1001 l0 l1 y0 = some (valS l0 y0)) := ⟨value_eq l1 HW.out.1 (by have := HL0.out; omega) y0 (by have := HL0.out; omega)⟩
     have hwa := valS_rng HW.out.1 y1
     have hwb := valS_rng HW.out.1 y0
     have HNX2 : Aside0 ((l1.take (k2 + 1)).map (mnPart l0) = (l1.take k2).map (mnPart l0) ++ [(⟨strOfNums [y0, y1], valS l0 y1 - valS l0 y0⟩ : Pt)]) := HNX
     clear HNX
     generalize valS l0 y1 = a at HVA hwa HNX2
     generalize valS l0 y0 = b at HVB hwb HNX2
     have hwr : wrap64 (a - b) = a - b := by unfold wrap64; omega
     clear hwa hwb
     refine start_ (n := 16) (S := fun w' => w'.cell? ⟨w.heap.size, 0, none⟩ = some (.slice A0 l0.length c0) ∧ w'.cell? ⟨w.heap.size, 1, none⟩ = some (.slice (some am) l1.length c1) ∧ w'.cell? ⟨wr.heap.size, 0, none⟩ = some (.int .u8 y0) ∧ w'.cell? ⟨wr.heap.size, 1, none⟩ = some (.int .u8 y1) ∧ (convert 106 9 (.slice (some ⟨wr.heap.size, 0, none⟩) 2 2)).run Try.prog w' = .ok (.string (strOfNums [y0, y1])) w') (ds := [13, 14]) #[false, false, false, false, false, false, false, false, false, false, false, false, false, false, false, false] (by kernel_rfl) rfl rfl ⟨hs0, hs1, hm0, hm1, conv2 hm0 hm1⟩ (fun hHeld => ?_)
     refine with_tabW partsTab.tab10 partsTab.bits10 (fun HT_ HW_ => ?_)
     refine pu_ 0 (some 35) HT_ ?_
     refine pu_ 1 (some 36) HT_ ?_
     refine pu_ 4 (some 39) HT_ ?_
     refine pu_ 8 (some 43) HT_ ?_
     refine tk_ 2 (some 37) HT_ HW_ hHeld rfl (by rintro w' ⟨s0, s1, s2, s3, s4⟩; go_simp; with_reducible rfl) ?_
     refine tk_ 3 (some 38) HT_ HW_ hHeld rfl (by rintro w' ⟨s0, s1, s2, s3, s4⟩; go_simp; with_reducible rfl) ?_
     refine tk_ 5 (some 40) HT_ HW_ hHeld rfl (by rintro w' ⟨s0, s1, s2, s3, s4⟩; go_simp; with_reducible rfl) ?_
     refine tk_ 7 (some 42) HT_ HW_ hHeld rfl (by rintro w' ⟨s0, s1, s2, s3, s4⟩; go_simp; with_reducible rfl) ?_
     refine tk_ 9 (some 44) HT_ HW_ hHeld rfl (by rintro w' ⟨s0, s1, s2, s3, s4⟩; go_simp; with_reducible rfl) ?_
     refine on_ 6 (some 41) HT_ fun K hK => ?_
     refine goes_ Try.func63 (by kernel_rfl) rfl #[.agg #[.slice A0 l0.length c0, .slice (some am) l1.length c1], .int .u8 y1] (by rfl) rfl rfl (by simp only [List.map_toArray, List.map_cons, List.map_nil]; rfl) ?_
     with_reducible refine (impl_System_value.calls 1001 A0 c0 l0 (some am) c1 l1 y1 a _ (Kd.C_below HR0.out (bw1 HB7.out)) HC0.out (Kd.C_below HR1.out (bw1 HB7.out)) HC1.out HVA.out).mono ?_
     rintro e w3 ⟨rfl, hb3⟩
     refine ⟨_, rfl, ?_⟩
     refine hK.out _ _ ⟨cellB_ hb3 (hHeld.1), cellB_ hb3 (hHeld.2.1), cellB_ hb3 (hHeld.2.2.1), cellB_ hb3 (hHeld.2.2.2.1), conv2 (cellB_ hb3 (hHeld.2.2.1)) (cellB_ hb3 (hHeld.2.2.2.1))⟩ (fun hHeld => ?_)
     clear hK K
     refine nm_ (some 41) ?_
     refine on_ 10 (some 45) HT_ fun K hK => ?_
     refine goes_ Try.func63 (by kernel_rfl) rfl #[.agg #[.slice A0 l0.length c0, .slice (some am) l1.length c1], .int .u8 y0] (by rfl) rfl rfl (by simp only [List.map_toArray, List.map_cons, List.map_nil]; rfl) ?_
     with_reducible refine (impl_System_value.calls 1001 A0 c0 l0 (some am) c1 l1 y0 b _ (Kd.C_below HR0.out (below_step (bw1 HB7.out) hb3)) HC0.out (Kd.C_below HR1.out (below_step (bw1 HB7.out) hb3)) HC1.out HVB.out).mono ?_
     rintro e w5 ⟨rfl, hb5⟩
     refine ⟨_, rfl, ?_⟩
     have HB9 := Aside0.mk (below_step (below_step (bw1 HB7.out) hb3) hb5)
     have HO9 := Aside0.mk (Kd.R_below (Kd.R_below (Kd.R_drew HO7.out) hb3) hb5)
     have HG9 := Aside0.mk (blk_below (blk_below (blk_drew HG7.out) hb3) hb5)
     refine hK.out _ _ ⟨cellB_ hb5 (hHeld.1), cellB_ hb5 (hHeld.2.1), cellB_ hb5 (hHeld.2.2.1), cellB_ hb5 (hHeld.2.2.2.1), conv2 (cellB_ hb5 (hHeld.2.2.1)) (cellB_ hb5 (hHeld.2.2.2.1))⟩ (fun hHeld => ?_)
     clear hK K
     refine nm_ (some 45) ?_
     refine pu_ 11 (some 46) HT_ ?_
     refine pu_ 12 (some 47) HT_ ?_
     refine la_ 13 (some 48) HT_ fun K hK => ?_
     refine value_ (w1 := ?_) (v := ?_) (by rfl) rfl ?_ ?_
     rotate_left 2
     ·go_simp
      constructor
      ·rfl
      ·rfl
     refine hK.out _ _ ?_
     clear hK K
     refine nm_ (some 48) ?_
     refine la_ 14 (some 49) HT_ fun K hK => ?_
     refine Kd.R_append_step k81 w.heap.size (by rfl) (.tmp 35) (.tmp 48) 69 81 (.agg #[(.string ⟨#[]⟩), (.int .i64 0)]) 24 rfl Try.underlying69 info81 rfl (by decide) (by omega) u3 (l0.map sgPart ++ (l1.take k2).map (mnPart l0)) (⟨strOfNums [y0, y1], a - b⟩ : Pt) [.string (strOfNums [y0, y1]), .int .i64 (a - b)] (fun _ => True) (fun _ => False) rfl rfl ?aP (fun _ hk => hk.elim) ?aF ?aO (Below.refl _ _) ?aS ?aL ?_
     (case aP => exact k81_mkM _ _ _ (⟨strOfNums [y0, y1], a - b⟩ : Pt))
     (case aF => exact (fun _ _ => trivial))
     (case aO => exact HO9.out)
     (case aS => exact (below_size HB9.out))
     (case aL => rw [List.length_append, List.length_map, List.length_map, List.length_take]; have := HL0.out; have := HL1.out; omega)
     intro v49 w49 ho hb hg hat
     have n0_ := Aside0.mk (blk_grown HG9.out hg (Kd.R_ne HO9.out HG9.out (by decide)))
     have n1_ := Aside0.mk (below_weaken HB9.out (Nat.le_refl _) hb)
     have n2_ := Aside0.mk ho
     clear HO9 HB9 HG9
     have HG9 := n0_
     have HB9 := n1_
     have HO9 := n2_
     clear n0_ n1_ n2_ ho hb hg hat
     refine hK.out _ _ ?_
     clear hK K
     refine nm_ (some 49) ?_
     refine pu_ 15 (some 3) HT_ ?_
     refine done_ (done_of HT_.out (by kernel_rfl)) ?_
     have hl1' := HL1.out
     go_wp2_with fail
     go_roundg (l1.length - (k2 + 1))
     case measure => omega
     case rel => exact ⟨k2 + 1, by omega, by omega, by go_num, ⟨by rw [HNX2.out, ← List.append_assoc]; exact (by (with_reducible repeat (first | apply Kd.R_alloc | apply Kd.R_drewN | apply Kd.R_drew)); exact HO9.out)⟩, ⟨(by repeat (first | (with_reducible first | exact HB9.out | apply bwA | apply pwN | apply bw1) | exact HB9.out))⟩, ⟨by (with_reducible repeat (first | refine blk_drewN ?_ _ | refine blk_drew ?_ | refine blk_alloc ?_ _)); exact HG9.out⟩⟩
    ·have hltz : ¬ (k2 : Int) < (l1.length : Int) := by omega
     obtain rfl : k2 = l1.length := by omega
     rw [List.take_length] at HO
     go_wp2_with fail
     go_ret
     exact ⟨_, rfl, HO.out, HB.out⟩
def impl_System_parts.f (l0_0 : List Sg) (l0_1 : List P2) : Option (List Pt) := if wfSys l0_0 l0_1 ∧ l0_0.length ≤ 1000 ∧ l0_1.length ≤ 1000 then some (partsL l0_0 l0_1) else none
theorem impl_System_parts.calls (A0_0 : Option Addr) (c0_0 : Nat) (l0_0 : List Sg) (A0_1 : Option Addr) (c0_1 : Nat) (l0_1 : List P2) (r : List Pt) (w : World) (hr0_0 : Kd.C k102 w A0_0 l0_0.length l0_0) (hc0_0 : l0_0.length ≤ c0_0) (hr0_1 : Kd.C k104 w A0_1 l0_1.length l0_1) (hc0_1 : l0_1.length ≤ c0_1) (h : impl_System_parts.f l0_0 l0_1 = some r) :
  Calls Try.prog 65 #[.agg #[.slice A0_0 l0_0.length c0_0, .slice A0_1 l0_1.length c0_1]] w fun e w' => ∃ v0_ : Value, e = .returned v0_ ∧ Kd.R k81 81 w' w.heap.size (fun _ => True) v0_ r ∧ Below w.heap.size w w' := by
 unfold impl_System_parts.f at h
 split at h
 ·rename_i hw
  obtain rfl := Option.some.inj h
  exact parts_calls A0_0 A0_1 c0_0 c0_1 l0_0 l0_1 w hr0_0 hc0_0 hr0_1 hc0_1 hw.1 hw.2.1 hw.2.2
 ·cases h
end Go.Proofs.Ytlepbhlbooajmaa.Ext
namespace Go.Proofs.Ytlepbhlbooajmaa.Pure
open Go.RowKit Go.Proofs.Ytlepbhlbooajmaa.Ext Go.Proofs.Ytlepbhlbooajmaa.Q Go.Proofs.YtlepbhlbooajmaaW.PrintWords Go.Proofs.YtlepbhlbooajmaaW.PrintLast Go.Proofs.YtlepbhlbooajmaaW.PrintMore
set_option linter.unusedVariables false
set_option linter.unusedSimpArgs false
structure Sys where
 m : Nat
 T : Nat → ByteArray
 V : Nat → Int
 nx : Nat → Nat → Bool
def Sys.L (s : Sys) (p : Nat) : Int := ((s.T p).size : Int)
structure Sys.ok (s : Sys) : Prop where
 m0 : 1 ≤ s.m
 m1 : s.m ≤ 16
 v0 : ∀ p, p < s.m → 1 ≤ s.V p
 v1 : ∀ p, p < s.m → s.V p ≤ 32767
 l0 : ∀ p, p < s.m → 1 ≤ s.L p
 l1 : ∀ p, p < s.m → s.L p ≤ 2
 all : ∀ p, s.nx s.m p = true
def at2 (out : List (List Int)) (i : Int) (p : Nat) : Int := (out.getD i.toNat []).getD p 0
def lo (a b : Int) : Int := if a < b then a else b
def cS (s : Sys) (out : List (List Int)) (mm : Int) (last : Nat) : Nat → Int
 | 0 => 1000000
 | p + 1 => if s.nx last p = true ∧ s.V p ≤ mm then lo (cS s out mm last p) (s.L p + at2 out (mm - s.V p) p) else cS s out mm last p
def rowS (s : Sys) (out : List (List Int)) (j : Nat) : List Int := (List.range (s.m + 1)).map fun last => if j = 0 then 0 else cS s out j last s.m
def tabS (s : Sys) : Nat → List (List Int)
 | 0 => []
 | j + 1 => tabS s j ++ [rowS s (tabS s j) j]
theorem tabS_len (s : Sys) (n : Nat) : (tabS s n).length = n := by
 induction n with
 | zero => rfl
 | succ n ih => simp [tabS, ih]
theorem tabS_get (s : Sys) {j n : Nat} (h : j < n) : (tabS s n).getD j [] = rowS s (tabS s j) j := by
 induction n with
 | zero => omega
 | succ n ih =>
  rw [show tabS s (n + 1) = tabS s n ++ [rowS s (tabS s n) n] from rfl]
  by_cases e : j = n
  ·subst e
   rw [List.getD_eq_getElem?_getD, List.getElem?_append_right (by rw [tabS_len]; omega), tabS_len]
   simp
  ·rw [List.getD_eq_getElem?_getD, List.getElem?_append_left (by rw [tabS_len]; omega), ← List.getD_eq_getElem?_getD]
   exact ih (by omega)
def valT (s : Sys) (j last : Nat) : Int := (rowS s (tabS s j) j).getD last 0
theorem at2_tabS (s : Sys) {j n : Nat} (h : j < n) (p : Nat) : at2 (tabS s n) (j : Int) p = valT s j p := by
 unfold at2 valT
 rw [Int.toNat_natCast, tabS_get s h]
theorem map_range_getD {n : Nat} (f : Nat → Int) (k : Nat) (h : k < n) : ((List.range n).map f).getD k 0 = f k := by
 rw [List.getD_eq_getElem?_getD, List.getElem?_map, List.getElem?_range h]
 rfl
theorem valT_zero (s : Sys) {last : Nat} (h : last ≤ s.m) : valT s 0 last = 0 := by
 unfold valT rowS
 rw [map_range_getD _ _ (by omega), if_pos rfl]
theorem valT_pos (s : Sys) {j last : Nat} (hj : 0 < j) (h : last ≤ s.m) : valT s j last = cS s (tabS s j) j last s.m := by
 unfold valT rowS
 rw [map_range_getD _ _ (by omega), if_neg (by omega)]
theorem lo_le (a b : Int) : lo a b ≤ a ∧ lo a b ≤ b ∧ (lo a b = a ∨ lo a b = b) := by unfold lo; split <;> omega
theorem cS_le (s : Sys) (out : List (List Int)) (mm : Int) (last p : Nat) : ∀ q, p < q → s.nx last p = true → s.V p ≤ mm → cS s out mm last q ≤ s.L p + at2 out (mm - s.V p) p := by
 intro q
 induction q with
 | zero => intro h; omega
 | succ q ih =>
  intro h hn hv
  unfold cS
  by_cases e : p = q
  ·subst e
   rw [if_pos ⟨hn, hv⟩]
   exact (lo_le _ _).2.1
  ·have := ih (by omega) hn hv
   split
   ·exact Int.le_trans (lo_le _ _).1 this
   ·exact this
theorem cS_or (s : Sys) (out : List (List Int)) (mm : Int) (last : Nat) : ∀ q, cS s out mm last q = 1000000 ∨ ∃ p, p < q ∧ s.nx last p = true ∧ s.V p ≤ mm ∧ cS s out mm last q = s.L p + at2 out (mm - s.V p) p := by
 intro q
 induction q with
 | zero => left; rfl
 | succ q ih =>
  unfold cS
  split
  ·rename_i h
   rcases (lo_le (cS s out mm last q) (s.L q + at2 out (mm - s.V q) q)).2.2 with e | e
   ·rw [e]
    rcases ih with ih | ⟨p, h1, h2, h3, h4⟩
    ·exact Or.inl ih
    ·exact Or.inr ⟨p, by omega, h2, h3, h4⟩
   ·exact Or.inr ⟨q, by omega, h.1, h.2, e⟩
  ·rcases ih with ih | ⟨p, h1, h2, h3, h4⟩
   ·exact Or.inl ih
   ·exact Or.inr ⟨p, by omega, h2, h3, h4⟩
theorem cS_top (s : Sys) (out : List (List Int)) (mm : Int) (last : Nat) : ∀ q, cS s out mm last q ≤ 1000000 := by
 intro q
 induction q with
 | zero => exact Int.le_refl _
 | succ q ih =>
  unfold cS
  split
  ·exact Int.le_trans (lo_le _ _).1 ih
  ·exact ih
theorem rest_nat {j : Nat} {v : Int} (h : v ≤ (j : Int)) (hv : 1 ≤ v) : ((j : Int) - v) = (((j : Int) - v).toNat : Int) ∧ ((j : Int) - v).toNat < j := by omega
theorem valT_bd (s : Sys) (ho : s.ok) : ∀ (j last : Nat), last ≤ s.m → 0 ≤ valT s j last ∧ valT s j last ≤ 1000000 := by
 intro j
 induction j using Nat.strongRecOn with
 | _ j ih =>
  intro last hl
  by_cases hj : j = 0
  ·subst hj; rw [valT_zero s hl]; omega
  ·rw [valT_pos s (by omega) hl]
   refine ⟨?_, cS_top s _ _ _ _⟩
   rcases cS_or s (tabS s j) j last s.m with h | ⟨p, h1, h2, h3, h4⟩
   ·rw [h]; omega
   ·have hv := rest_nat h3 (ho.v0 p h1)
    rw [h4, hv.1, at2_tabS s hv.2]
    have := (ih _ hv.2 p (by omega)).1
    have := ho.l0 p h1
    omega
theorem valT_le (s : Sys) (ho : s.ok) {j last p : Nat} (hj : 0 < j) (hl : last ≤ s.m) (hp : p < s.m) (hn : s.nx last p = true) (hv : s.V p ≤ (j : Int)) : valT s j last ≤ s.L p + valT s ((j : Int) - s.V p).toNat p := by
 have h := rest_nat hv (ho.v0 p hp)
 have := cS_le s (tabS s j) j last p s.m hp hn hv
 rw [h.1, at2_tabS s h.2] at this
 rw [valT_pos s hj hl]
 exact this
theorem valT_or (s : Sys) (ho : s.ok) {j last : Nat} (hj : 0 < j) (hl : last ≤ s.m) : valT s j last = 1000000 ∨ ∃ p, p < s.m ∧ s.nx last p = true ∧ s.V p ≤ (j : Int) ∧ valT s j last = s.L p + valT s ((j : Int) - s.V p).toNat p := by
 rw [valT_pos s hj hl]
 rcases cS_or s (tabS s j) j last s.m with h | ⟨p, h1, h2, h3, h4⟩
 ·exact Or.inl h
 ·have hv := rest_nat h3 (ho.v0 p h1)
  exact Or.inr ⟨p, h1, h2, h3, by rw [h4, hv.1, at2_tabS s hv.2, Int.toNat_natCast]⟩
def nxL (s : Sys) (k : Nat) : List Int := ((List.range s.m).filter (s.nx k)).map fun (q : Nat) => (q : Int)
def fT (row : List Int) (l : List Int) (a : Int) : Int := l.foldl (fun a q => mn a (rd row q)) a
def baseT (s : Sys) (out : List (List Int)) (n : Int) (k : Nat) : Int := if n - s.V k = 0 then 0 else if n - s.V k > 0 then fT (out.getD (n - s.V k).toNat []) (nxL s k) 100 else 100
def cellT (s : Sys) (out : List (List Int)) (n : Int) (k : Nat) : Int := mn (baseT s out n k + s.L k) 100
def rowT (s : Sys) (out : List (List Int)) (j : Nat) : List Int := (List.range s.m).map (cellT s out j)
def tabT (s : Sys) : Nat → List (List Int)
 | 0 => []
 | j + 1 => tabT s j ++ [rowT s (tabT s j) j]
theorem tabT_len (s : Sys) (n : Nat) : (tabT s n).length = n := by
 induction n with
 | zero => rfl
 | succ n ih => simp [tabT, ih]
theorem tabT_get (s : Sys) {j n : Nat} (h : j < n) : (tabT s n).getD j [] = rowT s (tabT s j) j := by
 induction n with
 | zero => omega
 | succ n ih =>
  rw [show tabT s (n + 1) = tabT s n ++ [rowT s (tabT s n) n] from rfl]
  by_cases e : j = n
  ·subst e
   rw [List.getD_eq_getElem?_getD, List.getElem?_append_right (by rw [tabT_len]; omega), tabT_len]
   simp
  ·rw [List.getD_eq_getElem?_getD, List.getElem?_append_left (by rw [tabT_len]; omega), ← List.getD_eq_getElem?_getD]
   exact ih (by omega)
theorem mn_le (a b : Int) : mn a b ≤ a ∧ mn a b ≤ b ∧ (mn a b = a ∨ mn a b = b) := by unfold mn; split <;> omega
theorem fT_spec (row : List Int) : ∀ (l : List Int) (a : Int), fT row l a ≤ a ∧ (∀ q ∈ l, fT row l a ≤ rd row q) ∧ (fT row l a = a ∨ ∃ q ∈ l, fT row l a = rd row q) := by
 intro l
 induction l with
 | nil => intro a; exact ⟨Int.le_refl _, by simp, Or.inl rfl⟩
 | cons x xs ih =>
  intro a
  have h := ih (mn a (rd row x))
  have hm := mn_le a (rd row x)
  have e : fT row (x :: xs) a = fT row xs (mn a (rd row x)) := rfl
  rw [e]
  refine ⟨Int.le_trans h.1 hm.1, ?_, ?_⟩
  ·intro q hq
   rcases List.mem_cons.1 hq with rfl | hq
   ·exact Int.le_trans h.1 hm.2.1
   ·exact h.2.1 q hq
  ·rcases h.2.2 with h2 | ⟨q, hq, h2⟩
   ·rcases hm.2.2 with h3 | h3
    ·exact Or.inl (h2.trans h3)
    ·exact Or.inr ⟨x, List.mem_cons_self, h2.trans h3⟩
   ·exact Or.inr ⟨q, List.mem_cons_of_mem _ hq, h2⟩
theorem mem_nxL {s : Sys} {k : Nat} {q : Int} : q ∈ nxL s k ↔ ∃ p : Nat, p < s.m ∧ s.nx k p = true ∧ q = (p : Int) := by
 unfold nxL
 simp only [List.mem_map, List.mem_filter, List.mem_range]
 constructor
 ·rintro ⟨p, ⟨h1, h2⟩, rfl⟩; exact ⟨p, h1, h2, rfl⟩
 ·rintro ⟨p, h1, h2, rfl⟩; exact ⟨p, ⟨h1, h2⟩, rfl⟩
def tabV (s : Sys) (j k : Nat) : Int := if s.V k ≤ (j : Int) then (if 100 < s.L k + valT s ((j : Int) - s.V k).toNat k then 100 else s.L k + valT s ((j : Int) - s.V k).toNat k) else 100
theorem rd_rowT (s : Sys) (out : List (List Int)) (j k : Nat) (h : k < s.m) : rd (rowT s out j) (k : Int) = cellT s out j k := by
 unfold rd rowT
 rw [Int.toNat_natCast, map_range_getD _ _ h]
theorem fold_tabV (s : Sys) (ho : s.ok) {i last : Nat} (hi : 0 < i) (hl : last ≤ s.m) (row : List Int) (hrow : ∀ k, k < s.m → rd row (k : Int) = tabV s i k) : fT row (nxL s last) 100 = if 100 < valT s i last then 100 else valT s i last := by
 have hf := fT_spec row (nxL s last) 100
 have hup : fT row (nxL s last) 100 ≤ valT s i last := by
  rcases valT_or s ho hi hl with h | ⟨p, h1, h2, h3, h4⟩
  ·omega
  ·have := hf.2.1 _ (mem_nxL.2 ⟨p, h1, h2, rfl⟩)
   rw [hrow p h1] at this
   unfold tabV at this
   rw [if_pos h3] at this
   split at this <;> omega
 have hlo : fT row (nxL s last) 100 = 100 ∨ valT s i last ≤ fT row (nxL s last) 100 := by
  rcases hf.2.2 with h | ⟨q, hq, h⟩
  ·exact Or.inl h
  ·obtain ⟨p, h1, h2, rfl⟩ := mem_nxL.1 hq
   rw [hrow p h1] at h
   unfold tabV at h
   by_cases hv : s.V p ≤ (i : Int)
   ·rw [if_pos hv] at h
    have := valT_le s ho hi hl h1 h2 hv
    split at h <;> omega
   ·rw [if_neg hv] at h; exact Or.inl h
 split <;> omega
theorem cell_tabV (s : Sys) (ho : s.ok) : ∀ (j k : Nat), k < s.m → cellT s (tabT s j) j k = tabV s j k := by
 intro j
 induction j using Nat.strongRecOn with
 | _ j ih =>
  intro k hk
  have hv0 := ho.v0 k hk
  have hl0 := ho.l0 k hk
  have hl1 := ho.l1 k hk
  unfold cellT baseT tabV
  by_cases hv : s.V k ≤ (j : Int)
  ·rw [if_pos hv]
   have hr := rest_nat hv hv0
   by_cases h0 : (j : Int) - s.V k = 0
   ·rw [if_pos h0, h0]
    rw [show (0 : Int).toNat = 0 from rfl, valT_zero s (by omega)]
    unfold mn
    split <;> split <;> omega
   ·rw [if_neg h0, if_pos (by omega)]
    generalize hi : ((j : Int) - s.V k).toNat = i at hr
    rw [tabT_get s hr.2, fold_tabV s ho (i := i) (last := k) (by omega) (by omega) _ (fun q hq => by rw [rd_rowT s _ _ _ hq]; exact ih i hr.2 q hq)]
    have := valT_bd s ho i k (by omega)
    unfold mn
    split <;> split <;> omega
  ·rw [if_neg hv, if_neg (by omega), if_neg (by omega)]
   unfold mn
   split <;> omega
theorem rd_tabT (s : Sys) (ho : s.ok) {j n k : Nat} (h : j < n) (hk : k < s.m) : rd ((tabT s n).getD j []) (k : Int) = tabV s j k := by
 rw [tabT_get s h, rd_rowT s _ _ _ hk]
 exact cell_tabV s ho j k hk
end Go.Proofs.Ytlepbhlbooajmaa.Pure
namespace Go.Proofs.Ytlepbhlbooajmaa.Ext
end Go.Proofs.Ytlepbhlbooajmaa.Ext
namespace Go.Proofs.Ytlepbhlbooajmaa.Q
open Go.Proofs.Ytlepbhlbooajmaa.Ext
open Go.RowKit Go.Proofs.YtlepbhlbooajmaaW.PrintWords Go.Proofs.YtlepbhlbooajmaaW.PrintLast Go.Proofs.YtlepbhlbooajmaaW.PrintMore
attribute [local go_sem] max2_int min2_int max_two min_two max_three min_three max_four min_four
set_option linter.unusedVariables false
set_option linter.unusedSimpArgs false
mutual
def impl_builder_lengths.l0 : Nat → List (List Int) → Int → Int → List (S81) → List (List Int) → Option ((List (List Int)))
 | 0, _, _, _, _, _ => none
 | k + 1, x5, x17, x18, x290000, x290001 => if x18 < x17 then (if 0 ≤ (x290000.length : Int) then (if ((x290000.length : Int) : Int).toNat ≤ 281474976710656 then (if 0 ≤ x18 then (if x18 < (x5.length : Int) then (impl_builder_lengths.l1 k (x5.set (x18 : Int).toNat (List.replicate ((x290000.length : Int) : Int).toNat 0)) x18 x17 x18 x290000 (x290000.length : Int) 0 x290000 x290001) else (none)) else (none)) else (none)) else (none)) else (some x5)
def impl_builder_lengths.l1 : Nat → List (List Int) → Int → Int → Int → List (S81) → Int → Int → List (S81) → List (List Int) → Option ((List (List Int)))
 | 0, _, _, _, _, _, _, _, _, _ => none
 | k + 1, x5, x6, x17, x18, x29, x30, x31, x290000, x290001 => if x31 < x30 then (if 0 ≤ x31 then (if x31 < (x29.length : Int) then (if (wrap64 (x6 - ((rd_T81 x29 x31).f1))) = 0 then (if 0 ≤ x6 then (if x6 < (x5.length : Int) then (if x31 < ((rd_L18 x5 x6).length : Int) then (impl_builder_lengths.l1 k (x5.set (x6 : Int).toNat ((rd_L18 x5 x6).set (x31 : Int).toNat (mn (IntKind.i8.wrap (0 + (IntKind.i8.wrap ((((rd_T81 x29 x31).f0).size : Int))))) 100))) x6 x17 x18 x29 x30 (wrap64 (x31 + 1)) x290000 x290001) else (none)) else (none)) else (none)) else (if (wrap64 (x6 - ((rd_T81 x29 x31).f1))) > 0 then (if x31 < (x290001.length : Int) then (impl_builder_lengths.l2 k x5 x6 x31 (wrap64 (x6 - ((rd_T81 x29 x31).f1))) 100 x17 x18 x29 x30 x31 (rd_L16 x290001 x31) ((rd_L16 x290001 x31).length : Int) 0 x290000 x290001 ((rd_T81 x29 x31).f0) ((rd_T81 x29 x31).f1)) else (none)) else (if 0 ≤ x6 then (if x6 < (x5.length : Int) then (if x31 < ((rd_L18 x5 x6).length : Int) then (impl_builder_lengths.l1 k (x5.set (x6 : Int).toNat ((rd_L18 x5 x6).set (x31 : Int).toNat (mn (IntKind.i8.wrap (100 + (IntKind.i8.wrap ((((rd_T81 x29 x31).f0).size : Int))))) 100))) x6 x17 x18 x29 x30 (wrap64 (x31 + 1)) x290000 x290001) else (none)) else (none)) else (none)))) else (none)) else (none)) else (impl_builder_lengths.l0 k x5 x17 (wrap64 (x18 + 1)) x290000 x290001)
def impl_builder_lengths.l2 : Nat → List (List Int) → Int → Int → Int → Int → Int → Int → List (S81) → Int → Int → List Int → Int → Int → List (S81) → List (List Int) → ByteArray → Int → Option ((List (List Int)))
 | 0, _, _, _, _, _, _, _, _, _, _, _, _, _, _, _, _, _ => none
 | k + 1, x5, x6, x7, x9, x10, x17, x18, x29, x30, x31, x48, x49, x50, x290000, x290001, x299000, x299001 => if x50 < x49 then (if 0 ≤ x50 then (if x50 < (x48.length : Int) then (if 0 ≤ x9 then (if x9 < (x5.length : Int) then (if 0 ≤ (rd x48 x50) then (if (rd x48 x50) < ((rd_L18 x5 x9).length : Int) then (impl_builder_lengths.l2 k x5 x6 x7 x9 (mn x10 (rd (rd_L18 x5 x9) (rd x48 x50))) x17 x18 x29 x30 x31 x48 x49 (wrap64 (x50 + 1)) x290000 x290001 x299000 x299001) else (none)) else (none)) else (none)) else (none)) else (none)) else (none)) else (if 0 ≤ x6 then (if x6 < (x5.length : Int) then (if 0 ≤ x7 then (if x7 < ((rd_L18 x5 x6).length : Int) then (impl_builder_lengths.l1 k (x5.set (x6 : Int).toNat ((rd_L18 x5 x6).set (x7 : Int).toNat (mn (IntKind.i8.wrap (x10 + (IntKind.i8.wrap ((x299000.size : Int))))) 100))) x6 x17 x18 x29 x30 (wrap64 (x31 + 1)) x290000 x290001) else (none)) else (none)) else (none)) else (none))
end
def impl_builder_lengths.f (k : Nat) (l0_0 : List (S81)) (l0_1 : List (List Int)) (a1 : Int) : Option ((List (List Int))) := if 0 ≤ (wrap64 (a1 + 1)) then (if (wrap64 (a1 + 1) : Int).toNat ≤ 11728124029610 then ((some (List.replicate (wrap64 (a1 + 1) : Int).toNat [] : List (List Int))).bind fun y290 => (impl_builder_lengths.l0 k y290 (y290.length : Int) 0 l0_0 l0_1)) else (none)) else (none)
def impl_builder_lengths.T19 : Bool × List (List Nat × List Nat) := (true, [([], []), ([], []), ([0, 1], [0, 1]), ([2], [2]), ([], []), ([], []), ([], []), ([6], [6]), ([7], [7]), ([8], [8]), ([5, 9], [5, 9]), ([10], [10]), ([3, 4, 0, 1, 2, 3, 4, 5, 6, 7, 8, 9, 10, 11], [3, 4]), ([12, 11, 0, 1, 2, 3, 4, 5, 6, 7, 8, 9, 10, 11], [11, 12])])
def impl_builder_lengths.B19 : List Nat := [0, 0, 3, 7, 0, 0, 0, 64, 192, 448, 992, 2016, 4095, 8191]
theorem impl_builder_lengths.tab19 : rtab .any (opsOf Try.f41 19) = impl_builder_lengths.T19 := by kernel_rfl
theorem impl_builder_lengths.bits19 : waitsOk impl_builder_lengths.T19.2 impl_builder_lengths.B19 = true := by kernel_rfl
set_option maxHeartbeats 8000000 in
set_option maxRecDepth 100000 in
theorem impl_builder_lengths.calls (k : Nat) (A0_0 : Option Addr) (c0_0 : Nat) (l0_0 : List (S81)) (A0_1 : Option Addr) (c0_1 : Nat) (l0_1 : List (List Int)) (a1 : Int) (r : List (List Int)) (w : World) (hr0_0 : Kd.C k81 w A0_0 l0_0.length l0_0) (hc0_0 : l0_0.length ≤ c0_0) (hr0_1 : Kd.C (Kd.slice 3 (Kd.int .i64)) w A0_1 l0_1.length l0_1) (hc0_1 : l0_1.length ≤ c0_1) (h : impl_builder_lengths.f k l0_0 l0_1 a1 = some r) :
  Calls Try.prog 41 #[.agg #[.slice A0_0 l0_0.length c0_0, .slice A0_1 l0_1.length c0_1], .int .i64 a1] w fun e w' => ∃ v0_ : Value, e = .returned (v0_) ∧ Kd.S (Kd.slice 39 (Kd.int .i8)) 124 w' w.heap.size (fun _ => True) v0_ r ∧ Below w.heap.size w w' := by
 have hu72 := Try.underlying72
 have hu81 := Try.underlying81
 have HR0_0 := Aside0.mk hr0_0
 have HC0_0 := Aside0.mk hc0_0
 clear hr0_0 hc0_0
 have HR0_1 := Aside0.mk hr0_1
 have HC0_1 := Aside0.mk hc0_1
 clear hr0_1 hc0_1
 have HB := Aside0.mk (Below.refl w.heap.size w)
 have H : (if 0 ≤ (wrap64 (a1 + 1)) then (if (wrap64 (a1 + 1) : Int).toNat ≤ 11728124029610 then ((some (List.replicate (wrap64 (a1 + 1) : Int).toNat [] : List (List Int))).bind fun y290 => (impl_builder_lengths.l0 k y290 (y290.length : Int) 0 l0_0 l0_1)) else (none)) else (none)) = some r := h
 clear h
 obtain ⟨ji3, hji3⟩ : ∃ j_ : Int, (wrap64 (a1 + 1)) = j_ := ⟨_, rfl⟩
 replace H : (if 0 ≤ (ji3) then (if (ji3 : Int).toNat ≤ 11728124029610 then ((some (List.replicate (ji3 : Int).toNat [] : List (List Int))).bind fun y290 => (impl_builder_lengths.l0 k y290 (y290.length : Int) 0 l0_0 l0_1)) else (none)) else (none)) = some r := by first | (rw [hji3] at H; exact H) | (simp only [hji3] at H ⊢; exact H)
 have hji3w : (IntKind.i64.wrap (a1 + 1)) = ji3 := (i64_w _).trans hji3
 by_cases c4 : 0 ≤ (ji3)
 ·rw [if_pos c4] at H
  have c4b0 := eq_true c4
  have c4b1 : decide (0 ≤ (ji3)) = true := decide_eq_true c4
  clear c4
  by_cases c5 : (ji3 : Int).toNat ≤ 11728124029610
  ·rw [if_pos c5] at H
   have c5b0 := eq_true c5
   have c5b1 : decide ((ji3 : Int).toNat ≤ 11728124029610) = true := decide_eq_true c5
   clear c5
   obtain ⟨y290, hy290⟩ : ∃ y_ : List (List Int), y_ = (List.replicate (ji3 : Int).toNat []) := ⟨_, rfl⟩
   replace H : (impl_builder_lengths.l0 k y290 (y290.length : Int) 0 l0_0 l0_1) = some r := by first | (rw [hy290]; with_reducible exact H) | (have H2_ := (Option.bind_some _ _).symm.trans H; rw [hy290]; with_reducible exact H2_) | (have H2_ := (Option.bind_some _ _).symm.trans H; with_reducible exact H2_) | with_reducible exact H | (rw [hy290]; exact H) | exact H
   have Ny290 := Aside0.mk hy290
   clear hy290
   have H' := Aside0.mk H
   clear H
   go_enter Try.func41, Try.ntmps41
   go_wp2_with (first | ((with_reducible refine gate_dst (N := 2) rfl ?_); refine box_event ?hg (N := 2) ?hd (cs := #[.slice A0_0 l0_0.length c0_0, .slice A0_1 l0_1.length c0_1]) (t := 72) ?hr ?_; (case hd => rfl); (case hg => rfl); (case hr => first | (go_simp; done) | (go_simp; rfl)); intro gb289 hg w6 hbox hb; have n0_ := Aside0.mk (below_step (by repeat (first | (with_reducible first | exact HB.out | apply bwA | apply pwN | apply bw1) | exact HB.out)) hb); have n1_ := Aside0.mk (hbox); have n2_ := Aside0.mk ((by rw [hg]; exact (below_size (by repeat (first | (with_reducible first | exact HB.out | apply bwA | apply pwN | apply bw1) | exact HB.out))) : w.heap.size ≤ gb289)); have n3_ := Aside0.mk (n2_.out); clear HB; have HB := n0_; have BK289 := n1_; have GW289 := n2_; have GE289 := n3_; clear n0_ n1_ n2_ n3_; clear hb hbox hg) | ((with_reducible refine gate_dst (N := 15) rfl ?_); refine Kd.S_make (Kd.slice 39 (Kd.int .i8)) _ 124 rfl (N := 15) rfl 86 _ _ rfl ji3 rfl rfl Try.underlying86 (.slice none 0 0) 24 info124 rfl (by decide) (by omega) [] (ok := fun _ => True) (okp := fun _ => True) ⟨_, rfl, Kd.R_nil _ _ _ _ _⟩ (fun _ hk => hk) trivial (of_decide_eq_true (by first | (with_reducible assumption) | assumption)) (Nat.le_trans (Nat.mul_le_mul_right _ (of_decide_eq_true (by first | (with_reducible assumption) | assumption) : ji3.toNat ≤ 11728124029610)) (by omega)) (Below.refl _ _) (Nat.le_refl _) ?_; intro v291 w7 ho8 hb hg_ hnew_; clear hg_ hnew_; (first | rw [← Ny290.out] at ho8 | (simp only [Int.reduceToNat] at ho8; rw [← Ny290.out] at ho8)); have n0_ := Aside0.mk (Kd.S_lower ho8 (below_size (by repeat (first | (with_reducible first | exact HB.out | apply bwA | apply pwN | apply bw1 | refine below_set ?_ GE289.out) | exact HB.out)))); have n1_ := Aside0.mk (blk_below (g := gb289) (by (with_reducible repeat (first | refine blk_drewN ?_ _ | refine blk_drew ?_ | refine blk_alloc ?_ _)); exact BK289.out) hb); have n2_ := Aside0.mk (below_step (by repeat (first | (with_reducible first | exact HB.out | apply bwA | apply pwN | apply bw1 | refine below_set ?_ GE289.out) | exact HB.out)) hb); clear BK289; clear HB; have HO292 := n0_; have BK289 := n1_; have HB := n2_; clear n0_ n1_ n2_; clear hb ho8; obtain ⟨Ao9, co9, eo9⟩ := Kd.S_slice HO292.out; subst eo9))
   go_loopg [18] k (fun kq v18 w' => ∃ (x5_1 : List (List Int)) (x18_1 : Int), v18 = .int .i64 x18_1 ∧ Aside0 (impl_builder_lengths.l0 kq x5_1 (y290.length : Int) x18_1 l0_0 l0_1 = some r) ∧ Aside0 (kq ≤ k) ∧ Aside0 (Kd.S (Kd.slice 39 (Kd.int .i8)) 124 w' w.heap.size (fun _ => True) (.slice Ao9 y290.length co9) x5_1) ∧ Aside0 (w'.heap[gb289]? = some (.cells #[(.slice A0_0 l0_0.length c0_0), (.slice A0_1 l0_1.length c0_1)] 72 (0, 0))) ∧ Aside0 (Below w.heap.size w w'))
   case atStart => exact ⟨(y290), (0), (by first | rfl | (simp; done) | (simp [*]; done)), H', ⟨Nat.le_refl _⟩, ⟨by (with_reducible repeat (first | apply Kd.S_alloc | apply Kd.S_drewN | apply Kd.S_drew)); exact HO292.out⟩, ⟨by (with_reducible repeat (first | refine blk_drewN ?_ _ | refine blk_drew ?_ | refine blk_alloc ?_ _)); exact BK289.out⟩, ⟨by repeat (first | (with_reducible first | exact HB.out | apply bwA | apply pwN | apply bw1 | refine below_set ?_ GE289.out) | exact HB.out)⟩⟩
   case round =>
    clear H'
    try clear p2
    try clear c4
    try clear c4b0
    try clear c4b1
    try clear c5
    try clear c5b0
    try clear c5b1
    try clear p6
    obtain ⟨x5_1, x18_1, rfl, HA, HK1, HO_5, BK289, HB⟩ := hrel
    have hl5_1 := (Kd.S_reads' HO_5.out).1
    rw [hl5_1] at HO_5
    (try simp only [hl5_1])
    (try simp only [hl5_1] at BK289)
    cases gk with
    | zero => exact absurd HA.out (by simp [impl_builder_lengths.l0])
    | succ k1 =>
     have H := HA.out
     clear HA
     simp only [impl_builder_lengths.l0] at H
     by_cases c10 : x18_1 < (y290.length : Int)
     ·rw [if_pos c10] at H
      have c10b0 : decide (x18_1 < (y290.length : Int)) = true := decide_eq_true c10
      clear c10
      by_cases c11 : 0 ≤ (l0_0.length : Int)
      ·rw [if_pos c11] at H
       have c11b0 := eq_true c11
       have c11b1 : decide (0 ≤ (l0_0.length : Int)) = true := decide_eq_true c11
       clear c11
       by_cases c12 : ((l0_0.length : Int) : Int).toNat ≤ 281474976710656
       ·rw [if_pos c12] at H
        have c12b0 := eq_true c12
        have c12b1 : decide (((l0_0.length : Int) : Int).toNat ≤ 281474976710656) = true := decide_eq_true c12
        clear c12
        obtain ⟨y293, hy293⟩ : ∃ y_ : List Int, y_ = (List.replicate ((l0_0.length : Int) : Int).toNat 0) := ⟨_, rfl⟩
        replace H : (if 0 ≤ x18_1 then (if x18_1 < (x5_1.length : Int) then (impl_builder_lengths.l1 k1 (x5_1.set (x18_1 : Int).toNat y293) x18_1 (y290.length : Int) x18_1 l0_0 (l0_0.length : Int) 0 l0_0 l0_1) else (none)) else (none)) = some r := by first | (rw [hy293]; with_reducible exact H) | (have H2_ := (Option.bind_some _ _).symm.trans H; rw [hy293]; with_reducible exact H2_) | (have H2_ := (Option.bind_some _ _).symm.trans H; with_reducible exact H2_) | with_reducible exact H | (rw [hy293]; exact H) | exact H
        have Ny293 := Aside0.mk hy293
        clear hy293
        by_cases c13 : 0 ≤ x18_1
        ·rw [if_pos c13] at H
         have c13b0 : decide (0 ≤ x18_1) = true := decide_eq_true c13
         clear c13
         by_cases c14 : x18_1 < (x5_1.length : Int)
         ·rw [if_pos c14] at H
          have c14b0 : decide (x18_1 < (x5_1.length : Int)) = true := decide_eq_true c14
          clear c14
          obtain ⟨y296, hy296⟩ : ∃ y_ : List (List Int), y_ = (x5_1.set (x18_1 : Int).toNat y293) := ⟨_, rfl⟩
          replace H : (impl_builder_lengths.l1 k1 y296 x18_1 (y290.length : Int) x18_1 l0_0 (l0_0.length : Int) 0 l0_0 l0_1) = some r := by first | (rw [hy296]; with_reducible exact H) | (have H2_ := (Option.bind_some _ _).symm.trans H; rw [hy296]; with_reducible exact H2_) | (have H2_ := (Option.bind_some _ _).symm.trans H; with_reducible exact H2_) | with_reducible exact H | (rw [hy296]; exact H) | exact H
          have Ny296 := Aside0.mk hy296
          clear hy296
          have H' := Aside0.mk H
          clear H
          have hcz16_0 : wr.cell? ⟨gb289, 0, none⟩ = some (.slice A0_0 l0_0.length c0_0) := (blk_cell BK289.out 0).trans rfl
          have hcz16_1 : wr.cell? ⟨gb289, 1, none⟩ = some (.slice A0_1 l0_1.length c0_1) := (blk_cell BK289.out 1).trans rfl
          have hfz16_0 := blk_frozen BK289.out 0
          have hfz16_1 := blk_frozen BK289.out 1
          go_wp2_with (first | ((with_reducible refine gate_dst (N := 26) rfl ?_); refine Kd.R_make (Kd.int .i8) _ 39 rfl (N := 26) rfl 124 _ _ rfl (l0_0.length : Int) rfl rfl Try.underlying124 (.int .i8 0) 1 info39 rfl (by decide) (by omega) 0 (ok := fun _ => True) (okp := fun _ => True) rfl (fun _ hk => hk) trivial (of_decide_eq_true (by first | (with_reducible assumption) | assumption)) (Nat.le_trans (Nat.mul_le_mul_right _ (of_decide_eq_true (by first | (with_reducible assumption) | assumption) : (l0_0.length : Int).toNat ≤ 281474976710656)) (by omega)) (Below.refl _ _) (Nat.le_refl _) ?_; intro v294 w17 ho18 hb hg_ hnew_; clear hg_ hnew_; (first | rw [← Ny293.out] at ho18 | (simp only [Int.reduceToNat] at ho18; rw [← Ny293.out] at ho18)); have n0_ := Aside0.mk (Kd.S_elder' (by (with_reducible repeat (first | apply Kd.S_alloc | apply Kd.S_drewN | apply Kd.S_drew)); exact HO_5.out) (Kd.R_base ho18) hb); have n1_ := Aside0.mk (Kd.R_lower ho18 (below_size (by repeat (first | (with_reducible first | exact HB.out | apply bwA | apply pwN | apply bw1 | refine below_set ?_ GE289.out) | exact HB.out)))); have n2_ := Aside0.mk (blk_below (g := gb289) (by (with_reducible repeat (first | refine blk_drewN ?_ _ | refine blk_drew ?_ | refine blk_alloc ?_ _)); exact BK289.out) hb); have n3_ := Aside0.mk (below_step (by repeat (first | (with_reducible first | exact HB.out | apply bwA | apply pwN | apply bw1 | refine below_set ?_ GE289.out) | exact HB.out)) hb); clear HO_5; clear BK289; clear HB; have HO_5 := n0_; have HO295 := n1_; obtain ⟨Am_, cm_, em_⟩ := Kd.R_slice HO295.out; have EM_ := Aside0.mk em_; clear em_; have BK289 := n2_; have HB := n3_; clear n0_ n1_ n2_ n3_; clear hb ho18; have p15 : 0 ≤ (x18_1 : Int) := of_decide_eq_true (by first | (with_reducible assumption) | assumption); have q15 : (x18_1 : Int) < ((x5_1.length : Int) : Int) := of_decide_eq_true (by first | (with_reducible assumption) | assumption); obtain ⟨go15, co15, eo15, gb15, gl15, cl15, HG15⟩ := Kd.S_form HO_5.out (by omega); (first | cases eo15 | (injection eo15 with ea_ en_ ec_; (first | subst ea_ | (injection ea_ with ea_; subst ea_)); subst ec_; clear en_)); have GB15 := Aside0.mk gb15; have GG15 := Aside0.mk HG15; clear gb15 gl15 HG15; obtain ⟨_, ce15, hcl15, hM15, hcc15, hfr15, _, _⟩ := Kd.S_elem HO_5.out [] (x18_1 : Int) p15 q15; obtain ⟨ve15_0, rfl, ge15_0⟩ := hM15; have hx15_0 := hcc15 0 _ rfl; have hf15_0 := hfr15 0; (try simp only [show ((Kd.slice 39 (Kd.int .i8))).sz = 1 from rfl, Nat.mul_one, Nat.add_zero] at hx15_0); (try simp only [show ((Kd.slice 39 (Kd.int .i8))).sz = 1 from rfl, Nat.mul_one, Nat.add_zero] at hf15_0); clear hcl15 hcc15 hfr15; (try clear hM15); replace p15 := eq_true p15; replace q15 := eq_true q15; have n_ := Aside0.mk (Kd.S_mono (ok' := (fun k_ => some k_ ≠ (v294 : Value).ownBlock)) HO_5.out (fun k_ hk => hk.2)); clear HO_5; have HO_5 := n_; clear n_; have HX19 := Aside0.mk (show Kd.S (Kd.slice 39 (Kd.int .i8)) 124 w17 w.heap.size (fun k_ => ((fun _ => True)) k_ ∧ ¬ ((fun k_ => some k_ = (v294 : Value).ownBlock)) k_) (.slice (some ⟨go15, 0, none⟩) x5_1.length co9) x5_1 from (by (with_reducible repeat (first | apply Kd.S_alloc | apply Kd.S_drewN | apply Kd.S_drew)); exact Kd.S_mono HO_5.out (fun k_ hk => ⟨trivial, fun e_ => hk e_⟩))); obtain ⟨oki19, ce19, hcl19, hM19, hcc19, hfr19, hoki19, hH19⟩ := Kd.S_elem HX19.out [] (x18_1 : Int) (of_decide_eq_true (by first | (with_reducible assumption) | assumption)) (by have h_ : (x18_1 : Int) < ((x5_1.length : Int) : Int) := of_decide_eq_true (by first | (with_reducible assumption) | assumption); first | exact h_ | (have e_ := (Kd.S_reads' HO_5.out).1; omega) | simpa using h_); obtain ⟨ve19_0, rfl, ge19_0⟩ := hM19; have HP19 := Kd.S_seg hH19 (of_decide_eq_true (by first | (with_reducible assumption) | assumption)) (by have h_ : (x18_1 : Int) < ((x5_1.length : Int) : Int) := of_decide_eq_true (by first | (with_reducible assumption) | assumption); first | exact h_ | (have e_ := (Kd.S_reads' HO_5.out).1; omega) | simpa using h_) (seg := [v294]) (j := 0) (show 1 ≤ 1 from by decide) (x' := y293) (Kd.M_row (Kd.R_mono (Kd.R_tight rfl (Kd.R_mono (ok' := fun k_ => ((fun _ => True)) k_ ∧ k_ ≠ go15) (Kd.R_apart' (HO295.out) (Kd.S_typed HO_5.out) (by decide)) (fun k_ hk => ⟨trivial, fun e_ => (hk.2) (by rw [e_]; rfl)⟩))) (fun _ h_ => Or.inr (h_)))) (fun _ hk => hk) (fun k_ hk_ => ((Kd.R_mono (ok' := fun k_ => ((fun _ => True)) k_ ∧ k_ ≠ go15) (Kd.R_apart' (HO295.out) (Kd.S_typed HO_5.out) (by decide)) (fun k_ hk => ⟨trivial, fun e_ => (hk.2) (by rw [e_]; rfl)⟩))).1 k_ hk_.symm); have hx19_0 := hcc19 0 _ rfl; (try simp only [show ((Kd.slice 39 (Kd.int .i8))).sz = 1 from rfl, Nat.mul_one, Nat.add_zero] at hx19_0); have hf19_0 := hfr19 0; (try simp only [show ((Kd.slice 39 (Kd.int .i8))).sz = 1 from rfl, Nat.mul_one, Nat.add_zero] at hf19_0); clear hcl19 hcc19 hfr19 hoki19 hH19; (try clear hM19); (try simp only [show ((Kd.slice 39 (Kd.int .i8))).sz = 1 from rfl, Nat.mul_one, Nat.add_zero] at HP19)) | ((with_reducible refine gate_store (t := 124) (p := 27) rfl ?_); refine store_event (t := 124) (p := 27) (v := ?vo_w20) (w1 := (w17.setCell ⟨go15, (x18_1 : Int).toNat, none⟩ (v294))) ?hg ?ho ?hn ?hr ?_; (case ho => rfl); (case hg => rfl); (case hn => rfl); (case hr => first | (go_simp; done) | (go_simp; rfl) | (rw [EM_.out]; done) | (rw [EM_.out]; go_simp; done) | (rw [EM_.out]; go_simp; rfl)); intro w20 hw; have hg : w17.grownBy w20 (some go15) := (by rw [hw]; exact HP19.2); have hp_ : Kd.S (Kd.slice 39 (Kd.int .i8)) 124 w20 w.heap.size (fun _ => True) (.slice (some ⟨go15, 0, none⟩) x5_1.length co9) y296 := (by rw [hw, Ny296.out]; exact HP19.1); clear HP19; have n0_ := Aside0.mk (hp_); have n1_ := Aside0.mk (blk_grown (g := gb289) (by (with_reducible repeat (first | refine blk_drewN ?_ _ | refine blk_drew ?_ | refine blk_alloc ?_ _)); exact BK289.out) hg (Kd.S_ne HO_5.out BK289.out (by decide))); have n2_ := Aside0.mk ((by rw [hw]; exact below_set (HB.out) GB15.out : Below w.heap.size w w20)); clear HO_5; clear BK289; clear HB; clear HO295; have HO_5 := n0_; have BK289 := n1_; have HB := n2_; clear n0_ n1_ n2_; clear hg hw hp_; have hcz21_0 : w20.cell? ⟨gb289, 0, none⟩ = some (.slice A0_0 l0_0.length c0_0) := (blk_cell BK289.out 0).trans rfl; have hcz21_1 : w20.cell? ⟨gb289, 1, none⟩ = some (.slice A0_1 l0_1.length c0_1) := (blk_cell BK289.out 1).trans rfl; have hfz21_0 := blk_frozen BK289.out 0; have hfz21_1 := blk_frozen BK289.out 1))
          go_loopg [31] k1 (fun kq v31 w' => ∃ (x5_2 : List (List Int)) (x31_2 : Int), v31 = .int .i64 x31_2 ∧ Aside0 (impl_builder_lengths.l1 kq x5_2 x18_1 (y290.length : Int) x18_1 l0_0 (l0_0.length : Int) x31_2 l0_0 l0_1 = some r) ∧ Aside0 (kq ≤ k1) ∧ Aside0 (Kd.S (Kd.slice 39 (Kd.int .i8)) 124 w' w.heap.size (fun _ => True) (.slice (some ⟨go15, 0, none⟩) x5_1.length co9) x5_2) ∧ Aside0 (w'.heap[gb289]? = some (.cells #[(.slice A0_0 l0_0.length c0_0), (.slice A0_1 l0_1.length c0_1)] 72 (0, 0))) ∧ Aside0 (Below w.heap.size w w'))
          case atStart => exact ⟨(y296), (0), (by first | rfl | (simp; done) | (simp [*]; done)), H', ⟨Nat.le_refl _⟩, ⟨by (try simp only [hl5_1]); (with_reducible repeat (first | apply Kd.S_alloc | apply Kd.S_drewN | apply Kd.S_drew)); exact HO_5.out⟩, ⟨by (try simp only [hl5_1]); (with_reducible repeat (first | refine blk_drewN ?_ _ | refine blk_drew ?_ | refine blk_alloc ?_ _)); exact BK289.out⟩, ⟨by repeat (first | (with_reducible first | exact HB.out | apply bwA | apply pwN | apply bw1 | refine below_set ?_ GE289.out) | exact HB.out)⟩⟩
          case round =>
           clear H'
           try clear c1
           try clear p1
           try clear q1
           try clear hx1
           try clear p2
           try clear c4
           try clear c4b0
           try clear c4b1
           try clear c5
           try clear c5b0
           try clear c5b1
           try clear p6
           try clear c10
           try clear c10b0
           try clear c11
           try clear c11b0
           try clear c11b1
           try clear c12
           try clear c12b0
           try clear c12b1
           try clear c13
           try clear c13b0
           try clear c14
           try clear c14b0
           try clear c15
           try clear p15
           try clear q15
           try clear hx15
           try clear hf15
           try clear c19
           try clear hx19
           try clear hf19
           try clear hcz16_0
           try clear hcz16_1
           try clear hcz21_0
           try clear hcz21_1
           try clear hfz16_0
           try clear hfz16_1
           try clear hfz21_0
           try clear hfz21_1
           try clear hx15_0
           try clear hx19_0
           try clear p15
           try clear p2
           try clear p6
           try clear q15
           obtain ⟨x5_2, x31_2, rfl, HA, HK2, HO_5, BK289, HB⟩ := hrel
           have hl5_2 := (Kd.S_reads' HO_5.out).1
           rw [hl5_2] at HO_5
           (try simp only [hl5_2])
           (try simp only [hl5_2] at BK289)
           cases gk with
           | zero => exact absurd HA.out (by simp [impl_builder_lengths.l1])
           | succ k2 =>
            have H := HA.out
            clear HA
            simp only [impl_builder_lengths.l1] at H
            by_cases c22 : x31_2 < (l0_0.length : Int)
            ·rw [if_pos c22] at H
             have c22b0 : decide (x31_2 < (l0_0.length : Int)) = true := decide_eq_true c22
             clear c22
             by_cases c23 : 0 ≤ x31_2
             ·rw [if_pos c23] at H
              have c23b0 : decide (0 ≤ x31_2) = true := decide_eq_true c23
              clear c23
              by_cases c24 : x31_2 < (l0_0.length : Int)
              ·rw [if_pos c24] at H
               have c24b0 : decide (x31_2 < (l0_0.length : Int)) = true := decide_eq_true c24
               clear c24
               by_cases c25 : (wrap64 (x18_1 - ((rd_T81 l0_0 x31_2).f1))) = 0
               ·rw [if_pos c25] at H
                have c25b0 : ((wrap64 (x18_1 - ((rd_T81 l0_0 x31_2).f1))) == 0) = true := beq_iff_eq.mpr c25
                have c25b1 : ((wrap64 (x18_1 - ((rd_T81 l0_0 x31_2).f1))) != 0) = false := bne_eq_false_iff_eq.mpr c25
                clear c25
                by_cases c26 : 0 ≤ x18_1
                ·rw [if_pos c26] at H
                 have c26b0 : decide (0 ≤ x18_1) = true := decide_eq_true c26
                 clear c26
                 by_cases c27 : x18_1 < (x5_2.length : Int)
                 ·rw [if_pos c27] at H
                  have c27b0 : decide (x18_1 < (x5_2.length : Int)) = true := decide_eq_true c27
                  clear c27
                  obtain ⟨ji28, hji28⟩ : ∃ j_ : Int, (mn (IntKind.i8.wrap (0 + (IntKind.i8.wrap ((((rd_T81 l0_0 x31_2).f0).size : Int))))) 100) = j_ := ⟨_, rfl⟩
                  replace H : (if x31_2 < ((rd_L18 x5_2 x18_1).length : Int) then (impl_builder_lengths.l1 k2 (x5_2.set (x18_1 : Int).toNat ((rd_L18 x5_2 x18_1).set (x31_2 : Int).toNat (ji28))) x18_1 (y290.length : Int) x18_1 l0_0 (l0_0.length : Int) (wrap64 (x31_2 + 1)) l0_0 l0_1) else (none)) = some r := by first | (rw [hji28] at H; exact H) | (simp only [hji28] at H ⊢; exact H)
                  have hji28_ : (if 100 < (IntKind.i8.wrap (0 + (IntKind.i8.wrap ((((rd_T81 l0_0 x31_2).f0).size : Int))))) then 100 else (IntKind.i8.wrap (0 + (IntKind.i8.wrap ((((rd_T81 l0_0 x31_2).f0).size : Int)))))) = ji28 := hji28
                  have hji28_z : (if 100 < (IntKind.i8.wrap ((IntKind.i8.wrap ((((rd_T81 l0_0 x31_2).f0).size : Int))))) then 100 else (IntKind.i8.wrap ((IntKind.i8.wrap ((((rd_T81 l0_0 x31_2).f0).size : Int)))))) = ji28 := by have h_ := hji28_; (try simp only [Int.zero_add] at h_); exact h_
                  have hji28_z : (if 100 < (IntKind.i8.wrap ((IntKind.i8.wrap ((((rd_T81 l0_0 x31_2).f0).size : Int))))) then 100 else (IntKind.i8.wrap ((IntKind.i8.wrap ((((rd_T81 l0_0 x31_2).f0).size : Int)))))) = ji28 := by have h_ := hji28_; (try simp only [Int.zero_add] at h_); exact h_
                  by_cases c29 : x31_2 < ((rd_L18 x5_2 x18_1).length : Int)
                  ·rw [if_pos c29] at H
                   have c29b0 : decide (x31_2 < ((rd_L18 x5_2 x18_1).length : Int)) = true := decide_eq_true c29
                   clear c29
                   obtain ⟨y300, hy300⟩ : ∃ y_ : List Int, y_ = ((rd_L18 x5_2 x18_1).set (x31_2 : Int).toNat (ji28)) := ⟨_, rfl⟩
                   replace H : (impl_builder_lengths.l1 k2 (x5_2.set (x18_1 : Int).toNat y300) x18_1 (y290.length : Int) x18_1 l0_0 (l0_0.length : Int) (wrap64 (x31_2 + 1)) l0_0 l0_1) = some r := by first | (rw [hy300]; with_reducible exact H) | (have H2_ := (Option.bind_some _ _).symm.trans H; rw [hy300]; with_reducible exact H2_) | (have H2_ := (Option.bind_some _ _).symm.trans H; with_reducible exact H2_) | with_reducible exact H | (rw [hy300]; exact H) | exact H
                   have Ny300 := Aside0.mk hy300
                   clear hy300
                   obtain ⟨y302, hy302⟩ : ∃ y_ : List (List Int), y_ = (x5_2.set (x18_1 : Int).toNat y300) := ⟨_, rfl⟩
                   replace H : (impl_builder_lengths.l1 k2 y302 x18_1 (y290.length : Int) x18_1 l0_0 (l0_0.length : Int) (wrap64 (x31_2 + 1)) l0_0 l0_1) = some r := by first | (rw [hy302]; with_reducible exact H) | (have H2_ := (Option.bind_some _ _).symm.trans H; rw [hy302]; with_reducible exact H2_) | (have H2_ := (Option.bind_some _ _).symm.trans H; with_reducible exact H2_) | with_reducible exact H | (rw [hy302]; exact H) | exact H
                   have Ny302 := Aside0.mk hy302
                   clear hy302
                   have H' := Aside0.mk H
                   clear H
                   have p297 : 0 ≤ (x31_2 : Int) := of_decide_eq_true (by first | (with_reducible assumption) | assumption)
                   have q297 : x31_2 < (l0_0.length : Int) := of_decide_eq_true (by first | (with_reducible assumption) | assumption)
                   obtain ⟨ad297, e297, hx297_0, hx297_1⟩ := at_T81 HR0_0.out x31_2 p297 q297
                   cases e297
                   replace hx297_0 := (HB.out.cell (World.block_lt_of_cell? w _ hx297_0)).trans hx297_0
                   replace hx297_1 := (HB.out.cell (World.block_lt_of_cell? w _ hx297_1)).trans hx297_1
                   replace p297 := eq_true p297
                   replace q297 := eq_true q297
                   try go_wp2_with (first | ((with_reducible refine gate_dst (N := 8) rfl ?_); refine box_event ?hg (N := 8) ?hd (cs := #[.string (⟨#[]⟩ : ByteArray), .int .i64 0]) (t := 81) ?hr ?_; (case hd => rfl); (case hg => rfl); (case hr => first | (go_simp; done) | (go_simp; rfl)); intro gb298 hg w31 hbox hb; have n0_ := Aside0.mk (Kd.S_below (by (with_reducible repeat (first | apply Kd.S_alloc | apply Kd.S_drewN | apply Kd.S_drew)); exact HO_5.out) hb); have n1_ := Aside0.mk (blk_below (g := gb289) (by (with_reducible repeat (first | refine blk_drewN ?_ _ | refine blk_drew ?_ | refine blk_alloc ?_ _)); exact BK289.out) hb); have n2_ := Aside0.mk (below_step (by repeat (first | (with_reducible first | exact HB.out | apply bwA | apply pwN | apply bw1 | refine below_set ?_ GE289.out) | exact HB.out)) hb); have n3_ := Aside0.mk (hbox); have n4_ := Aside0.mk ((by rw [hg]; exact (below_size (by repeat (first | (with_reducible first | exact HB.out | apply bwA | apply pwN | apply bw1 | refine below_set ?_ GE289.out) | exact HB.out))) : w.heap.size ≤ gb298)); have n5_ := Aside0.mk (n4_.out); have n6_ := Aside0.mk ((by rw [hg]; exact Nat.ne_of_lt (blk_lt (g := gb289) (by (with_reducible repeat (first | refine blk_drewN ?_ _ | refine blk_drew ?_ | refine blk_alloc ?_ _)); exact BK289.out)) : gb289 ≠ gb298)); have n7_ := Aside0.mk ((Ne.symm n6_.out)); clear HO_5; clear BK289; clear HB; have HO_5 := n0_; have BK289 := n1_; have HB := n2_; have BK298 := n3_; have GW298 := n4_; have GE298 := n5_; have NB289_298 := n6_; have NB298_289 := n7_; clear n0_ n1_ n2_ n3_ n4_ n5_ n6_ n7_; clear hb hbox hg; have hnb32 := NB298_289.out; have hnc32 := NB289_298.out; have hcz33_0 : w31.cell? ⟨gb298, 0, none⟩ = some (.string (⟨#[]⟩ : ByteArray)) := (blk_cell BK298.out 0).trans rfl; have hcz33_1 : w31.cell? ⟨gb298, 1, none⟩ = some (.int .i64 0) := (blk_cell BK298.out 1).trans rfl; have hfz33_0 := blk_frozen BK298.out 0; have hfz33_1 := blk_frozen BK298.out 1))
                   have n0_ : Aside0 (Kd.S (Kd.slice 39 (Kd.int .i8)) 124 ((w31.setCell ⟨gb298, 0, none⟩ (.string ((rd_T81 l0_0 x31_2).f0))).setCell ⟨gb298, 1, none⟩ (.int .i64 ((rd_T81 l0_0 x31_2).f1))) w.heap.size (fun _ => True) (.slice (some ⟨go15, 0, none⟩) x5_2.length co9) x5_2) := ⟨by (with_reducible repeat (first | apply Kd.S_alloc | apply Kd.S_drewN | apply Kd.S_drew)); exact Kd.S_mono (Kd.S_far (p := ⟨gb298, 1, none⟩) (Kd.S_far (p := ⟨gb298, 0, none⟩) (Kd.S_types HO_5.out BK298.out (by decide)) (fun _ hk => hk.2) (.string ((rd_T81 l0_0 x31_2).f0))) (fun _ hk => hk.2) (.int .i64 ((rd_T81 l0_0 x31_2).f1))) (fun _ hk => trivial)⟩
                   have n1_ : Aside0 (((w31.setCell ⟨gb298, 0, none⟩ (.string ((rd_T81 l0_0 x31_2).f0))).setCell ⟨gb298, 1, none⟩ (.int .i64 ((rd_T81 l0_0 x31_2).f1))).heap[gb289]? = some (.cells #[.slice (some ad297) l0_0.length c0_0, .slice A0_1 l0_1.length c0_1] 72 (0, 0))) := ⟨by (with_reducible repeat (first | refine blk_drewN ?_ _ | refine blk_drew ?_ | refine blk_alloc ?_ _)); refine blk_far ?_ NB289_298.out _; refine blk_far ?_ NB289_298.out _; (with_reducible repeat (first | refine blk_drewN ?_ _ | refine blk_drew ?_ | refine blk_alloc ?_ _)); exact BK289.out⟩
                   have n2_ : Aside0 (((w31.setCell ⟨gb298, 0, none⟩ (.string ((rd_T81 l0_0 x31_2).f0))).setCell ⟨gb298, 1, none⟩ (.int .i64 ((rd_T81 l0_0 x31_2).f1))).heap[gb298]? = some (.cells #[.string ((rd_T81 l0_0 x31_2).f0), .int .i64 ((rd_T81 l0_0 x31_2).f1)] 81 (0, 0))) := ⟨by (with_reducible repeat (first | refine blk_drewN ?_ _ | refine blk_drew ?_ | refine blk_alloc ?_ _)); refine blk_put (cs := #[.string ((rd_T81 l0_0 x31_2).f0), .int .i64 0]) ?_ 1 _ rfl; refine blk_put (cs := #[.string (⟨#[]⟩ : ByteArray), .int .i64 0]) ?_ 0 _ rfl; (with_reducible repeat (first | refine blk_drewN ?_ _ | refine blk_drew ?_ | refine blk_alloc ?_ _)); exact BK298.out⟩
                   have n3_ : Aside0 (Below w.heap.size w ((w31.setCell ⟨gb298, 0, none⟩ (.string ((rd_T81 l0_0 x31_2).f0))).setCell ⟨gb298, 1, none⟩ (.int .i64 ((rd_T81 l0_0 x31_2).f1)))) := ⟨by repeat (first | (with_reducible first | exact HB.out | apply bwA | apply pwN | apply bw1 | refine below_set ?_ GE289.out | refine below_set ?_ GE298.out) | exact HB.out)⟩
                   (try clear HO_5)
                   (try clear BK289)
                   (try clear BK298)
                   (try clear HB)
                   generalize ((w31.setCell ⟨gb298, 0, none⟩ (.string ((rd_T81 l0_0 x31_2).f0))).setCell ⟨gb298, 1, none⟩ (.int .i64 ((rd_T81 l0_0 x31_2).f1))) = w34 at n0_ n1_ n2_ n3_ ⊢
                   have HO_5 := n0_
                   have BK289 := n1_
                   have BK298 := n2_
                   have HB := n3_
                   clear n0_ n1_ n2_ n3_
                   have n0_ := Aside0.mk (Kd.S_drew HO_5.out)
                   have n1_ := Aside0.mk (blk_drew BK289.out)
                   have n2_ := Aside0.mk (blk_drew BK298.out)
                   have n3_ := Aside0.mk (bw1 HB.out)
                   clear HO_5
                   clear BK289
                   clear BK298
                   clear HB
                   have HO_5 := n0_
                   have BK289 := n1_
                   have BK298 := n2_
                   have HB := n3_
                   clear n0_ n1_ n2_ n3_
                   have p299 : 0 ≤ (x18_1 : Int) := of_decide_eq_true (by first | (with_reducible assumption) | assumption)
                   have q299 : x18_1 < (x5_2.length : Int) := of_decide_eq_true (by first | (with_reducible assumption) | assumption)
                   obtain ⟨ad299, A299_0, c299_0, e299, hx299_0, hl299_0, hi299_0⟩ := at_L18 (Kd.S_reads' HO_5.out).2.2 x18_1 p299 q299
                   obtain rfl : (⟨go15, 0, none⟩ : Addr) = ad299 := (by injection e299)
                   obtain ⟨ce299, hce299, hMe299, hcc299⟩ := Kd.S_get HO_5.out [] x18_1 p299 (by first | exact q299 | exact of_decide_eq_true (by first | (with_reducible assumption) | assumption) | (have e_ := (Kd.S_reads' HO_5.out).1; omega))
                   obtain ⟨ve299_0, rfl, ge299_0⟩ := hMe299
                   have hv299_0 := hcc299 0 _ rfl
                   rw [Nat.add_zero, show ((Kd.slice 39 (Kd.int .i8))).sz = 1 from rfl, Nat.mul_one] at hv299_0
                   replace hv299_0 := Option.some.inj (hv299_0.symm.trans hx299_0)
                   rw [hv299_0] at ge299_0
                   have HL299_0 := Aside0.mk (show Kd.R (Kd.int .i8) 39 _ _ _ _ (rd_L18 x5_2 x18_1) from ge299_0)
                   clear hv299_0 ge299_0
                   have HX299_0 := Aside0.mk hx299_0
                   clear hcc299 hce299
                   (first | simp only [add_plain] at hx299_0 | simp only [add_at] at hx299_0 | simp only [Addr.add, Nat.zero_add] at hx299_0 | skip)
                   have HR299_0 := Aside0.mk hi299_0
                   have HC299_0 := Aside0.mk hl299_0
                   clear hi299_0 hl299_0
                   replace p299 := eq_true p299
                   replace q299 := eq_true q299
                   have p30 : 0 ≤ (x31_2 : Int) := of_decide_eq_true (by first | (with_reducible assumption) | assumption)
                   have q30 : (x31_2 : Int) < (((rd_L18 x5_2 x18_1).length : Int) : Int) := of_decide_eq_true (by first | (with_reducible assumption) | assumption)
                   obtain ⟨go30, co30, eo30, gb30, gl30, cl30, HG30⟩ := Kd.R_form HL299_0.out (by omega)
                   (first | cases eo30 | (injection eo30 with ea_ en_ ec_; (first | subst ea_ | (injection ea_ with ea_; subst ea_)); subst ec_; clear en_))
                   have GB30 := Aside0.mk gb30
                   have GG30 := Aside0.mk HG30
                   clear gb30 gl30 HG30
                   obtain ⟨hx30_0, hf30_0⟩ := Kd.R_celln 0 HL299_0.out (x31_2 : Int) p30 q30
                   replace p30 := eq_true p30
                   replace q30 := eq_true q30
                   have hq36 : (x18_1 : Int) < (x5_2.length : Int) := (by have h_ : (x18_1 : Int) < ((x5_2.length : Int) : Int) := of_decide_eq_true (by first | (with_reducible assumption) | assumption); first | exact h_ | (have e_ := (Kd.S_reads' HO_5.out).1; omega) | simpa only [List.length_set, List.length_set] using h_)
                   obtain ⟨oki36, ce36, hcl36, hM36, hcc36, hok36, hbk36⟩ := Kd.S_borrow HO_5.out [] (x18_1 : Int) (of_decide_eq_true (by first | (with_reducible assumption) | assumption)) hq36
                   obtain ⟨ve36_0, rfl, ge36_0⟩ := hM36
                   have hv36 := hcc36 0 _ rfl
                   rw [Nat.add_zero, show ((Kd.slice 39 (Kd.int .i8))).sz = 1 from rfl, Nat.mul_one] at hv36
                   replace hv36 := Option.some.inj (hv36.symm.trans HX299_0.out)
                   subst hv36
                   clear hcc36 hcl36
                   replace ge36_0 := (show Kd.R (Kd.int .i8) 39 _ _ _ _ (rd_L18 x5_2 x18_1) from ge36_0)
                   have HP36 := Kd.R_putg ge36_0 (x31_2 : Int) ji28
                   rw [← Ny300.out] at HP36
                   have HS36 := hbk36 HP36.2 (fun k_ e_ => by injection e_ with e_; subst e_; exact ge36_0.1 _ rfl) (x' := y300) (Kd.M_row HP36.1)
                   rw [← Ny302.out] at HS36
                   have HQ36 := Aside0.mk HS36
                   clear HP36 HS36 hbk36 hok36
                   refine start_ (n := 14) (S := fun w' => w'.cell? ⟨gb298, 0, none⟩ = some (.string ((rd_T81 l0_0 x31_2).f0)) ∧ w'.cell? ⟨gb298, 1, none⟩ = some (.int .i64 ((rd_T81 l0_0 x31_2).f1)) ∧ w'.cell? ⟨go15, (x18_1).toNat, none⟩ = some (.slice (some ⟨go30, 0, none⟩) (rd_L18 x5_2 x18_1).length c299_0)) (ds := [13]) #[false, false, false, false, false, false, false, false, false, false, false, false, false, false] (by kernel_rfl) rfl rfl ⟨(blk_cell BK298.out 0).trans rfl, (blk_cell BK298.out 1).trans rfl, hx299_0⟩ (fun hHeld => ?_); refine with_tabW impl_builder_lengths.tab19 impl_builder_lengths.bits19 (fun HT_ HW_ => ?_)
                   generalize w34.drew = w35 at HO_5 BK289 BK298 HB GG30 HL299_0 HQ36 HR299_0 HX299_0 hf30_0 hx299_0 hx30_0 hHeld ⊢
                   refine pu_ 0 (some 64) HT_ ?_
                   refine pu_ 1 (some 65) HT_ ?_
                   refine pu_ 2 (some 66) HT_ ?_
                   refine pu_ 4 (some 68) HT_ ?_
                   refine pu_ 5 (some 69) HT_ ?_
                   refine pu_ 6 (some 70) HT_ ?_
                   refine tk_ 3 (some 67) HT_ HW_ hHeld rfl (by rintro w' ⟨s0, s1, s2⟩; go_simp; with_reducible rfl) ?_
                   refine tk_ 7 (some 71) HT_ HW_ hHeld rfl (by rintro w' ⟨s0, s1, s2⟩; go_simp; with_reducible rfl) ?_
                   refine pu_ 8 (some 72) HT_ ?_
                   refine pu_ 9 (some 73) HT_ ?_
                   refine pu_ 10 (some 74) HT_ ?_
                   refine pu_ 11 (some 75) HT_ ?_
                   refine pu_ 12 (some 76) HT_ ?_
                   refine la_ 13 (none) HT_ fun K hK => ?_
                   refine skip_ (w1 := ?_) (by rfl) rfl ?_ ?_
                   rotate_left
                   ·go_simp
                    rfl
                   refine hK.out _ _ ?_
                   clear hK K
                   refine done_ (done_of HT_.out (by kernel_rfl)) ?_
                   try go_wp2
                   (try simp only [← hl5_2])
                   go_roundg k2
                   case measure => have := HK1.out; have := HK2.out; omega
                   case rel => exact ⟨(y302), (wrap64 (x31_2 + 1)), (by first | rfl | (simp; done) | (simp [*]; done)), H', ⟨by have := HK1.out; have := HK2.out; omega⟩, ⟨by (try simp only [hl5_1]); (try simp only [hl5_2]); (with_reducible repeat (first | apply Kd.S_alloc | apply Kd.S_drewN | apply Kd.S_drew)); exact HQ36.out⟩, ⟨by (try simp only [hl5_1]); (try simp only [hl5_2]); (with_reducible repeat (first | refine blk_drewN ?_ _ | refine blk_drew ?_ | refine blk_alloc ?_ _)); refine blk_far ?_ (by have h_ := Kd.R_ne HL299_0.out BK289.out (by decide); intro e_; exact h_ (by rw [e_]; rfl)) _; (with_reducible repeat (first | refine blk_drewN ?_ _ | refine blk_drew ?_ | refine blk_alloc ?_ _)); exact BK289.out⟩, ⟨by repeat (first | (with_reducible first | exact HB.out | apply bwA | apply pwN | apply bw1 | refine below_set ?_ GB30.out | refine below_set ?_ GE289.out | refine below_set ?_ GE298.out) | exact HB.out)⟩⟩
                  ·rw [if_neg c29] at H
                   exact absurd H (by simp)
                 ·rw [if_neg c27] at H
                  exact absurd H (by simp)
                ·rw [if_neg c26] at H
                 exact absurd H (by simp)
               ·rw [if_neg c25] at H
                have c25b0 : ((wrap64 (x18_1 - ((rd_T81 l0_0 x31_2).f1))) == 0) = false := beq_eq_false_iff_ne.mpr c25
                have c25b1 : ((wrap64 (x18_1 - ((rd_T81 l0_0 x31_2).f1))) != 0) = true := bne_iff_ne.mpr c25
                by_cases c38 : (wrap64 (x18_1 - ((rd_T81 l0_0 x31_2).f1))) > 0
                ·rw [if_pos c38] at H
                 have c38b0 : decide (0 < (wrap64 (x18_1 - ((rd_T81 l0_0 x31_2).f1)))) = true := decide_eq_true c38
                 clear c38
                 by_cases c39 : x31_2 < (l0_1.length : Int)
                 ·rw [if_pos c39] at H
                  have c39b0 : decide (x31_2 < (l0_1.length : Int)) = true := decide_eq_true c39
                  clear c39
                  have H' := Aside0.mk H
                  clear H
                  have p297 : 0 ≤ (x31_2 : Int) := of_decide_eq_true (by first | (with_reducible assumption) | assumption)
                  have q297 : x31_2 < (l0_0.length : Int) := of_decide_eq_true (by first | (with_reducible assumption) | assumption)
                  obtain ⟨ad297, e297, hx297_0, hx297_1⟩ := at_T81 HR0_0.out x31_2 p297 q297
                  cases e297
                  replace hx297_0 := (HB.out.cell (World.block_lt_of_cell? w _ hx297_0)).trans hx297_0
                  replace hx297_1 := (HB.out.cell (World.block_lt_of_cell? w _ hx297_1)).trans hx297_1
                  replace p297 := eq_true p297
                  replace q297 := eq_true q297
                  go_wp2_with (first | ((with_reducible refine gate_dst (N := 8) rfl ?_); refine box_event ?hg (N := 8) ?hd (cs := #[.string (⟨#[]⟩ : ByteArray), .int .i64 0]) (t := 81) ?hr ?_; (case hd => rfl); (case hg => rfl); (case hr => first | (go_simp; done) | (go_simp; rfl)); intro gb298 hg w40 hbox hb; have n0_ := Aside0.mk (Kd.S_below (by (with_reducible repeat (first | apply Kd.S_alloc | apply Kd.S_drewN | apply Kd.S_drew)); exact HO_5.out) hb); have n1_ := Aside0.mk (blk_below (g := gb289) (by (with_reducible repeat (first | refine blk_drewN ?_ _ | refine blk_drew ?_ | refine blk_alloc ?_ _)); exact BK289.out) hb); have n2_ := Aside0.mk (below_step (by repeat (first | (with_reducible first | exact HB.out | apply bwA | apply pwN | apply bw1 | refine below_set ?_ GE289.out) | exact HB.out)) hb); have n3_ := Aside0.mk (hbox); have n4_ := Aside0.mk ((by rw [hg]; exact (below_size (by repeat (first | (with_reducible first | exact HB.out | apply bwA | apply pwN | apply bw1 | refine below_set ?_ GE289.out) | exact HB.out))) : w.heap.size ≤ gb298)); have n5_ := Aside0.mk (n4_.out); have n6_ := Aside0.mk ((by rw [hg]; exact Nat.ne_of_lt (blk_lt (g := gb289) (by (with_reducible repeat (first | refine blk_drewN ?_ _ | refine blk_drew ?_ | refine blk_alloc ?_ _)); exact BK289.out)) : gb289 ≠ gb298)); have n7_ := Aside0.mk ((Ne.symm n6_.out)); clear HO_5; clear BK289; clear HB; have HO_5 := n0_; have BK289 := n1_; have HB := n2_; have BK298 := n3_; have GW298 := n4_; have GE298 := n5_; have NB289_298 := n6_; have NB298_289 := n7_; clear n0_ n1_ n2_ n3_ n4_ n5_ n6_ n7_; clear hb hbox hg; have hnb41 := NB298_289.out; have hnc41 := NB289_298.out; have hcz42_0 : w40.cell? ⟨gb298, 0, none⟩ = some (.string (⟨#[]⟩ : ByteArray)) := (blk_cell BK298.out 0).trans rfl; have hcz42_1 : w40.cell? ⟨gb298, 1, none⟩ = some (.int .i64 0) := (blk_cell BK298.out 1).trans rfl; have hfz42_0 := blk_frozen BK298.out 0; have hfz42_1 := blk_frozen BK298.out 1; have hcz43_0 : w40.cell? ⟨gb289, 0, none⟩ = some (.slice (some ad297) l0_0.length c0_0) := (blk_cell BK289.out 0).trans rfl; have hcz43_1 : w40.cell? ⟨gb289, 1, none⟩ = some (.slice A0_1 l0_1.length c0_1) := (blk_cell BK289.out 1).trans rfl; have hfz43_0 := blk_frozen BK289.out 0; have hfz43_1 := blk_frozen BK289.out 1; have p303 : 0 ≤ (x31_2 : Int) := of_decide_eq_true (by first | (with_reducible assumption) | assumption); have q303 : x31_2 < (l0_1.length : Int) := of_decide_eq_true (by first | (with_reducible assumption) | assumption); obtain ⟨ad303, A303_0, c303_0, e303, hx303_0, hl303_0, hi303_0⟩ := at_L16 HR0_1.out x31_2 p303 q303; cases e303; have hn303_0 : ad303.block ≠ gb298 := Nat.ne_of_lt (Nat.lt_of_lt_of_le (by have := World.block_lt_of_cell? _ _ hx303_0; first | rwa [add_block] at this | exact this) GW298.out); have hn303_1 : ad303.block ≠ gb298 := Nat.ne_of_lt (Nat.lt_of_lt_of_le (by have := World.block_lt_of_cell? _ _ hx303_0; first | rwa [add_block] at this | exact this) GW298.out); replace hx303_0 := (HB.out.cell (World.block_lt_of_cell? w _ hx303_0)).trans hx303_0; have HR303_0 := Aside0.mk hi303_0; have HC303_0 := Aside0.mk hl303_0; clear hi303_0 hl303_0; replace hx303_0 := (cell_far (p := ⟨gb298, 0, none⟩) (by first | exact hn303_0 | (rw [add_block]; exact hn303_0) | (show (Addr.add _ _).block ≠ _; rw [add_block]; exact hn303_0)) (.string ((rd_T81 l0_0 x31_2).f0))).trans hx303_0; replace hx303_0 := (cell_far (p := ⟨gb298, 1, none⟩) (by first | exact hn303_1 | (rw [add_block]; exact hn303_1) | (show (Addr.add _ _).block ≠ _; rw [add_block]; exact hn303_1)) (.int .i64 ((rd_T81 l0_0 x31_2).f1))).trans hx303_0; clear hn303_0; clear hn303_1; replace p303 := eq_true p303; replace q303 := eq_true q303))
                  go_loopg [10, 50] k2 (fun kq v10 v50 w' => ∃ (x10_3 : Int) (x50_3 : Int), v10 = .int .i8 x10_3 ∧ v50 = .int .i64 x50_3 ∧ Aside0 (impl_builder_lengths.l2 kq x5_2 x18_1 x31_2 (wrap64 (x18_1 - ((rd_T81 l0_0 x31_2).f1))) x10_3 (y290.length : Int) x18_1 l0_0 (l0_0.length : Int) x31_2 (rd_L16 l0_1 x31_2) ((rd_L16 l0_1 x31_2).length : Int) x50_3 l0_0 l0_1 ((rd_T81 l0_0 x31_2).f0) ((rd_T81 l0_0 x31_2).f1) = some r) ∧ Aside0 (kq ≤ k2) ∧ Aside0 (Kd.S (Kd.slice 39 (Kd.int .i8)) 124 w' w.heap.size (fun _ => True) (.slice (some ⟨go15, 0, none⟩) x5_2.length co9) x5_2) ∧ Aside0 (w'.heap[gb289]? = some (.cells #[(.slice (some ad297) l0_0.length c0_0), (.slice (some ad303) l0_1.length c0_1)] 72 (0, 0))) ∧ Aside0 (w'.heap[gb298]? = some (.cells #[.string ((rd_T81 l0_0 x31_2).f0), .int .i64 ((rd_T81 l0_0 x31_2).f1)] 81 (0, 0))) ∧ Aside0 (Below w.heap.size w w'))
                  case atStart => exact ⟨(100), (0), (by first | rfl | (simp; done) | (simp [*]; done)), (by first | rfl | (simp; done) | (simp [*]; done)), H', ⟨Nat.le_refl _⟩, ⟨by (try simp only [hl5_1]); (try simp only [hl5_2]); (with_reducible repeat (first | apply Kd.S_alloc | apply Kd.S_drewN | apply Kd.S_drew)); exact Kd.S_mono (Kd.S_far (p := ⟨gb298, 1, none⟩) (Kd.S_far (p := ⟨gb298, 0, none⟩) (Kd.S_types HO_5.out BK298.out (by decide)) (fun _ hk => hk.2) (.string ((rd_T81 l0_0 x31_2).f0))) (fun _ hk => hk.2) (.int .i64 ((rd_T81 l0_0 x31_2).f1))) (fun _ hk => trivial)⟩, ⟨by (try simp only [hl5_1]); (try simp only [hl5_2]); (with_reducible repeat (first | refine blk_drewN ?_ _ | refine blk_drew ?_ | refine blk_alloc ?_ _)); refine blk_far ?_ NB289_298.out _; refine blk_far ?_ NB289_298.out _; (with_reducible repeat (first | refine blk_drewN ?_ _ | refine blk_drew ?_ | refine blk_alloc ?_ _)); exact BK289.out⟩, ⟨by (try simp only [hl5_1]); (try simp only [hl5_2]); (with_reducible repeat (first | refine blk_drewN ?_ _ | refine blk_drew ?_ | refine blk_alloc ?_ _)); refine blk_put (cs := #[.string ((rd_T81 l0_0 x31_2).f0), .int .i64 0]) ?_ 1 _ rfl; refine blk_put (cs := #[.string (⟨#[]⟩ : ByteArray), .int .i64 0]) ?_ 0 _ rfl; (with_reducible repeat (first | refine blk_drewN ?_ _ | refine blk_drew ?_ | refine blk_alloc ?_ _)); exact BK298.out⟩, ⟨by repeat (first | (with_reducible first | exact HB.out | apply bwA | apply pwN | apply bw1 | refine below_set ?_ GE289.out | refine below_set ?_ GE298.out) | exact HB.out)⟩⟩
                  case round =>
                   clear H'
                   try clear c1
                   try clear p1
                   try clear q1
                   try clear hx1
                   try clear c2
                   try clear p2
                   try clear q2
                   try clear hx2
                   try clear c3
                   try clear p3
                   try clear q3
                   try clear hx3
                   try clear hf3
                   try clear c4
                   try clear c4b0
                   try clear c4b1
                   try clear c5
                   try clear c5b0
                   try clear c5b1
                   try clear p6
                   try clear c10
                   try clear c10b0
                   try clear c11
                   try clear c11b0
                   try clear c11b1
                   try clear c12
                   try clear c12b0
                   try clear c12b1
                   try clear c13
                   try clear c13b0
                   try clear c14
                   try clear c14b0
                   try clear c15
                   try clear p15
                   try clear q15
                   try clear hx15
                   try clear hf15
                   try clear c19
                   try clear hx19
                   try clear hf19
                   try clear c22
                   try clear c22b0
                   try clear c23
                   try clear c23b0
                   try clear c24
                   try clear c24b0
                   try clear c25
                   try clear c25b0
                   try clear c25b1
                   try clear c26
                   try clear c26b0
                   try clear c27
                   try clear c27b0
                   try clear c29
                   try clear c29b0
                   try clear p29
                   try clear q29
                   try clear hx29
                   try clear c30
                   try clear p30
                   try clear q30
                   try clear hx30
                   try clear hf30
                   try clear c32
                   try clear c36
                   try clear q36
                   try clear c38
                   try clear c38b0
                   try clear c39
                   try clear c39b0
                   try clear c41
                   try clear hcz16_0
                   try clear hcz16_1
                   try clear hcz21_0
                   try clear hcz21_1
                   try clear hcz33_0
                   try clear hcz33_1
                   try clear hcz42_0
                   try clear hcz42_1
                   try clear hcz43_0
                   try clear hcz43_1
                   try clear hfz16_0
                   try clear hfz16_1
                   try clear hfz21_0
                   try clear hfz21_1
                   try clear hfz33_0
                   try clear hfz33_1
                   try clear hfz42_0
                   try clear hfz42_1
                   try clear hfz43_0
                   try clear hfz43_1
                   try clear hx15_0
                   try clear hx19_0
                   try clear hx297_0
                   try clear hx297_1
                   try clear hx299_0
                   try clear hx303_0
                   try clear hx30_0
                   try clear p1
                   try clear p15
                   try clear p2
                   try clear p297
                   try clear p299
                   try clear p30
                   try clear p303
                   try clear p6
                   try clear q1
                   try clear q15
                   try clear q297
                   try clear q299
                   try clear q30
                   try clear q303
                   obtain ⟨x10_3, x50_3, rfl, rfl, HA, HK3, HO_5, BK289, BK298, HB⟩ := hrel
                   cases gk with
                   | zero => exact absurd HA.out (by simp [impl_builder_lengths.l2])
                   | succ k3 =>
                    have H := HA.out
                    clear HA
                    simp only [impl_builder_lengths.l2] at H
                    by_cases c44 : x50_3 < ((rd_L16 l0_1 x31_2).length : Int)
                    ·rw [if_pos c44] at H
                     have c44b0 : decide (x50_3 < ((rd_L16 l0_1 x31_2).length : Int)) = true := decide_eq_true c44
                     clear c44
                     by_cases c45 : 0 ≤ x50_3
                     ·rw [if_pos c45] at H
                      have c45b0 : decide (0 ≤ x50_3) = true := decide_eq_true c45
                      clear c45
                      by_cases c46 : x50_3 < ((rd_L16 l0_1 x31_2).length : Int)
                      ·rw [if_pos c46] at H
                       have c46b0 : decide (x50_3 < ((rd_L16 l0_1 x31_2).length : Int)) = true := decide_eq_true c46
                       clear c46
                       obtain ⟨ji47, hji47⟩ : ∃ j_ : Int, (wrap64 (x18_1 - ((rd_T81 l0_0 x31_2).f1))) = j_ := ⟨_, rfl⟩
                       replace H : (if 0 ≤ (ji47) then (if (ji47) < (x5_2.length : Int) then (if 0 ≤ (rd (rd_L16 l0_1 x31_2) x50_3) then (if (rd (rd_L16 l0_1 x31_2) x50_3) < ((rd_L18 x5_2 (ji47)).length : Int) then (impl_builder_lengths.l2 k3 x5_2 x18_1 x31_2 (ji47) (mn x10_3 (rd (rd_L18 x5_2 (ji47)) (rd (rd_L16 l0_1 x31_2) x50_3))) (y290.length : Int) x18_1 l0_0 (l0_0.length : Int) x31_2 (rd_L16 l0_1 x31_2) ((rd_L16 l0_1 x31_2).length : Int) (wrap64 (x50_3 + 1)) l0_0 l0_1 ((rd_T81 l0_0 x31_2).f0) ((rd_T81 l0_0 x31_2).f1)) else (none)) else (none)) else (none)) else (none)) = some r := by first | (rw [hji47] at H; exact H) | (simp only [hji47] at H ⊢; exact H)
                       (try rw [hji47] at c25b0)
                       (try rw [hji47] at c25b1)
                       (try rw [hji47] at c38b0)
                       have hji47w : (IntKind.i64.wrap (x18_1 - ((rd_T81 l0_0 x31_2).f1))) = ji47 := (i64_w _).trans hji47
                       by_cases c48 : 0 ≤ (ji47)
                       ·rw [if_pos c48] at H
                        have c48b0 : decide (0 ≤ (ji47)) = true := decide_eq_true c48
                        clear c48
                        by_cases c49 : (ji47) < (x5_2.length : Int)
                        ·rw [if_pos c49] at H
                         have c49b0 : decide ((ji47) < (x5_2.length : Int)) = true := decide_eq_true c49
                         clear c49
                         by_cases c50 : 0 ≤ (rd (rd_L16 l0_1 x31_2) x50_3)
                         ·rw [if_pos c50] at H
                          have c50b0 : decide (0 ≤ (rd (rd_L16 l0_1 x31_2) x50_3)) = true := decide_eq_true c50
                          clear c50
                          by_cases c51 : (rd (rd_L16 l0_1 x31_2) x50_3) < ((rd_L18 x5_2 (ji47)).length : Int)
                          ·rw [if_pos c51] at H
                           have c51b0 : decide ((rd (rd_L16 l0_1 x31_2) x50_3) < ((rd_L18 x5_2 (ji47)).length : Int)) = true := decide_eq_true c51
                           clear c51
                           obtain ⟨ji52, hji52⟩ : ∃ j_ : Int, (mn x10_3 (rd (rd_L18 x5_2 (ji47)) (rd (rd_L16 l0_1 x31_2) x50_3))) = j_ := ⟨_, rfl⟩
                           replace H : (impl_builder_lengths.l2 k3 x5_2 x18_1 x31_2 (ji47) ji52 (y290.length : Int) x18_1 l0_0 (l0_0.length : Int) x31_2 (rd_L16 l0_1 x31_2) ((rd_L16 l0_1 x31_2).length : Int) (wrap64 (x50_3 + 1)) l0_0 l0_1 ((rd_T81 l0_0 x31_2).f0) ((rd_T81 l0_0 x31_2).f1)) = some r := by first | (rw [hji52] at H; exact H) | (simp only [hji52] at H ⊢; exact H)
                           have hji52_ : (if (rd (rd_L18 x5_2 (ji47)) (rd (rd_L16 l0_1 x31_2) x50_3)) < x10_3 then (rd (rd_L18 x5_2 (ji47)) (rd (rd_L16 l0_1 x31_2) x50_3)) else x10_3) = ji52 := hji52
                           have H' := Aside0.mk H
                           clear H
                           have p304 : 0 ≤ (x50_3 : Int) := of_decide_eq_true (by first | (with_reducible assumption) | assumption)
                           have q304 : x50_3 < ((rd_L16 l0_1 x31_2).length : Int) := of_decide_eq_true (by first | (with_reducible assumption) | assumption)
                           obtain ⟨ad304, e304, hx304_0⟩ := Kd.at_int HR303_0.out x50_3 p304 q304
                           cases e304
                           replace hx304_0 := (HB.out.cell (World.block_lt_of_cell? w _ hx304_0)).trans hx304_0
                           replace p304 := eq_true p304
                           replace q304 := eq_true q304
                           have p305 : 0 ≤ ((ji47) : Int) := of_decide_eq_true (by first | (with_reducible assumption) | assumption)
                           have q305 : (ji47) < (x5_2.length : Int) := of_decide_eq_true (by first | (with_reducible assumption) | assumption)
                           obtain ⟨ad305, A305_0, c305_0, e305, hx305_0, hl305_0, hi305_0⟩ := at_L18 (Kd.S_reads' HO_5.out).2.2 (ji47) p305 q305
                           obtain rfl : (⟨go15, 0, none⟩ : Addr) = ad305 := (by injection e305)
                           obtain ⟨ce305, hce305, hMe305, hcc305⟩ := Kd.S_get HO_5.out [] (ji47) p305 (by first | exact q305 | exact of_decide_eq_true (by first | (with_reducible assumption) | assumption) | (have e_ := (Kd.S_reads' HO_5.out).1; omega))
                           obtain ⟨ve305_0, rfl, ge305_0⟩ := hMe305
                           have hv305_0 := hcc305 0 _ rfl
                           rw [Nat.add_zero, show ((Kd.slice 39 (Kd.int .i8))).sz = 1 from rfl, Nat.mul_one] at hv305_0
                           replace hv305_0 := Option.some.inj (hv305_0.symm.trans hx305_0)
                           rw [hv305_0] at ge305_0
                           have HL305_0 := Aside0.mk (show Kd.R (Kd.int .i8) 39 _ _ _ _ (rd_L18 x5_2 (ji47)) from ge305_0)
                           clear hv305_0 ge305_0
                           have HX305_0 := Aside0.mk hx305_0
                           clear hcc305 hce305
                           (first | simp only [add_plain] at hx305_0 | simp only [add_at] at hx305_0 | simp only [Addr.add, Nat.zero_add] at hx305_0 | skip)
                           have HR305_0 := Aside0.mk hi305_0
                           have HC305_0 := Aside0.mk hl305_0
                           clear hi305_0 hl305_0
                           replace p305 := eq_true p305
                           replace q305 := eq_true q305
                           have p306 : 0 ≤ ((rd (rd_L16 l0_1 x31_2) x50_3) : Int) := of_decide_eq_true (by first | (with_reducible assumption) | assumption)
                           have q306 : (rd (rd_L16 l0_1 x31_2) x50_3) < ((rd_L18 x5_2 (ji47)).length : Int) := of_decide_eq_true (by first | (with_reducible assumption) | assumption)
                           obtain ⟨ad306, e306, hx306_0⟩ := Kd.at_int (by repeat (first | (with_reducible exact HR305_0.out) | (with_reducible refine Kd.C_alloc ?_ _) | (with_reducible refine Kd.C_drewN ?_ _) | (with_reducible refine Kd.C_drew ?_) | exact HR305_0.out)) (rd (rd_L16 l0_1 x31_2) x50_3) p306 q306
                           cases e306
                           replace p306 := eq_true p306
                           replace q306 := eq_true q306
                           go_wp2
                           (try simp only [← hji47])
                           go_roundg k3
                           case measure => have := HK1.out; have := HK2.out; have := HK3.out; omega
                           case rel => exact ⟨(ji52), (wrap64 (x50_3 + 1)), (by first | rfl | (simp; done) | (simp only [← hji52] <;> (first | rfl | simp)) | (simp [*]; done)), (by first | rfl | (simp; done) | (simp [*]; done)), (by first | exact H' | (rw [hji47]; exact H')), ⟨by have := HK1.out; have := HK2.out; have := HK3.out; omega⟩, ⟨by (try simp only [hl5_1]); (try simp only [hl5_2]); (with_reducible repeat (first | apply Kd.S_alloc | apply Kd.S_drewN | apply Kd.S_drew)); exact HO_5.out⟩, ⟨by (try simp only [hl5_1]); (try simp only [hl5_2]); (with_reducible repeat (first | refine blk_drewN ?_ _ | refine blk_drew ?_ | refine blk_alloc ?_ _)); exact BK289.out⟩, ⟨by (try simp only [hl5_1]); (try simp only [hl5_2]); (with_reducible repeat (first | refine blk_drewN ?_ _ | refine blk_drew ?_ | refine blk_alloc ?_ _)); exact BK298.out⟩, ⟨by repeat (first | (with_reducible first | exact HB.out | apply bwA | apply pwN | apply bw1 | refine below_set ?_ GE289.out | refine below_set ?_ GE298.out) | exact HB.out)⟩⟩
                          ·rw [if_neg c51] at H
                           exact absurd H (by simp)
                         ·rw [if_neg c50] at H
                          exact absurd H (by simp)
                        ·rw [if_neg c49] at H
                         exact absurd H (by simp)
                       ·rw [if_neg c48] at H
                        exact absurd H (by simp)
                      ·rw [if_neg c46] at H
                       exact absurd H (by simp)
                     ·rw [if_neg c45] at H
                      exact absurd H (by simp)
                    ·rw [if_neg c44] at H
                     have c44b0 : decide (x50_3 < ((rd_L16 l0_1 x31_2).length : Int)) = false := decide_eq_false c44
                     clear c44
                     by_cases c53 : 0 ≤ x18_1
                     ·rw [if_pos c53] at H
                      have c53b0 : decide (0 ≤ x18_1) = true := decide_eq_true c53
                      clear c53
                      by_cases c54 : x18_1 < (x5_2.length : Int)
                      ·rw [if_pos c54] at H
                       have c54b0 : decide (x18_1 < (x5_2.length : Int)) = true := decide_eq_true c54
                       clear c54
                       obtain ⟨ji55, hji55⟩ : ∃ j_ : Int, (mn (IntKind.i8.wrap (x10_3 + (IntKind.i8.wrap ((((rd_T81 l0_0 x31_2).f0).size : Int))))) 100) = j_ := ⟨_, rfl⟩
                       replace H : (if 0 ≤ x31_2 then (if x31_2 < ((rd_L18 x5_2 x18_1).length : Int) then (impl_builder_lengths.l1 k3 (x5_2.set (x18_1 : Int).toNat ((rd_L18 x5_2 x18_1).set (x31_2 : Int).toNat (ji55))) x18_1 (y290.length : Int) x18_1 l0_0 (l0_0.length : Int) (wrap64 (x31_2 + 1)) l0_0 l0_1) else (none)) else (none)) = some r := by first | (rw [hji55] at H; exact H) | (simp only [hji55] at H ⊢; exact H)
                       have hji55_ : (if 100 < (IntKind.i8.wrap (x10_3 + (IntKind.i8.wrap ((((rd_T81 l0_0 x31_2).f0).size : Int))))) then 100 else (IntKind.i8.wrap (x10_3 + (IntKind.i8.wrap ((((rd_T81 l0_0 x31_2).f0).size : Int)))))) = ji55 := hji55
                       by_cases c56 : 0 ≤ x31_2
                       ·rw [if_pos c56] at H
                        have c56b0 : decide (0 ≤ x31_2) = true := decide_eq_true c56
                        clear c56
                        by_cases c57 : x31_2 < ((rd_L18 x5_2 x18_1).length : Int)
                        ·rw [if_pos c57] at H
                         have c57b0 : decide (x31_2 < ((rd_L18 x5_2 x18_1).length : Int)) = true := decide_eq_true c57
                         clear c57
                         obtain ⟨y308, hy308⟩ : ∃ y_ : List Int, y_ = ((rd_L18 x5_2 x18_1).set (x31_2 : Int).toNat (ji55)) := ⟨_, rfl⟩
                         replace H : (impl_builder_lengths.l1 k3 (x5_2.set (x18_1 : Int).toNat y308) x18_1 (y290.length : Int) x18_1 l0_0 (l0_0.length : Int) (wrap64 (x31_2 + 1)) l0_0 l0_1) = some r := by first | (rw [hy308]; with_reducible exact H) | (have H2_ := (Option.bind_some _ _).symm.trans H; rw [hy308]; with_reducible exact H2_) | (have H2_ := (Option.bind_some _ _).symm.trans H; with_reducible exact H2_) | with_reducible exact H | (rw [hy308]; exact H) | exact H
                         have Ny308 := Aside0.mk hy308
                         clear hy308
                         obtain ⟨y310, hy310⟩ : ∃ y_ : List (List Int), y_ = (x5_2.set (x18_1 : Int).toNat y308) := ⟨_, rfl⟩
                         replace H : (impl_builder_lengths.l1 k3 y310 x18_1 (y290.length : Int) x18_1 l0_0 (l0_0.length : Int) (wrap64 (x31_2 + 1)) l0_0 l0_1) = some r := by first | (rw [hy310]; with_reducible exact H) | (have H2_ := (Option.bind_some _ _).symm.trans H; rw [hy310]; with_reducible exact H2_) | (have H2_ := (Option.bind_some _ _).symm.trans H; with_reducible exact H2_) | with_reducible exact H | (rw [hy310]; exact H) | exact H
                         have Ny310 := Aside0.mk hy310
                         clear hy310
                         have H' := Aside0.mk H
                         clear H
                         try go_wp2
                         have n0_ := Aside0.mk (Kd.S_drew HO_5.out)
                         have n1_ := Aside0.mk (blk_drew BK289.out)
                         have n2_ := Aside0.mk (blk_drew BK298.out)
                         have n3_ := Aside0.mk (bw1 HB.out)
                         clear HO_5
                         clear BK289
                         clear BK298
                         clear HB
                         have HO_5 := n0_
                         have BK289 := n1_
                         have BK298 := n2_
                         have HB := n3_
                         clear n0_ n1_ n2_ n3_
                         have p307 : 0 ≤ (x18_1 : Int) := of_decide_eq_true (by first | (with_reducible assumption) | assumption)
                         have q307 : x18_1 < (x5_2.length : Int) := of_decide_eq_true (by first | (with_reducible assumption) | assumption)
                         obtain ⟨ad307, A307_0, c307_0, e307, hx307_0, hl307_0, hi307_0⟩ := at_L18 (Kd.S_reads' HO_5.out).2.2 x18_1 p307 q307
                         obtain rfl : (⟨go15, 0, none⟩ : Addr) = ad307 := (by injection e307)
                         obtain ⟨ce307, hce307, hMe307, hcc307⟩ := Kd.S_get HO_5.out [] x18_1 p307 (by first | exact q307 | exact of_decide_eq_true (by first | (with_reducible assumption) | assumption) | (have e_ := (Kd.S_reads' HO_5.out).1; omega))
                         obtain ⟨ve307_0, rfl, ge307_0⟩ := hMe307
                         have hv307_0 := hcc307 0 _ rfl
                         rw [Nat.add_zero, show ((Kd.slice 39 (Kd.int .i8))).sz = 1 from rfl, Nat.mul_one] at hv307_0
                         replace hv307_0 := Option.some.inj (hv307_0.symm.trans hx307_0)
                         rw [hv307_0] at ge307_0
                         have HL307_0 := Aside0.mk (show Kd.R (Kd.int .i8) 39 _ _ _ _ (rd_L18 x5_2 x18_1) from ge307_0)
                         clear hv307_0 ge307_0
                         have HX307_0 := Aside0.mk hx307_0
                         clear hcc307 hce307
                         (first | simp only [add_plain] at hx307_0 | simp only [add_at] at hx307_0 | simp only [Addr.add, Nat.zero_add] at hx307_0 | skip)
                         have HR307_0 := Aside0.mk hi307_0
                         have HC307_0 := Aside0.mk hl307_0
                         clear hi307_0 hl307_0
                         replace p307 := eq_true p307
                         replace q307 := eq_true q307
                         have p58 : 0 ≤ (x31_2 : Int) := of_decide_eq_true (by first | (with_reducible assumption) | assumption)
                         have q58 : (x31_2 : Int) < (((rd_L18 x5_2 x18_1).length : Int) : Int) := of_decide_eq_true (by first | (with_reducible assumption) | assumption)
                         obtain ⟨go58, co58, eo58, gb58, gl58, cl58, HG58⟩ := Kd.R_form HL307_0.out (by omega)
                         (first | cases eo58 | (injection eo58 with ea_ en_ ec_; (first | subst ea_ | (injection ea_ with ea_; subst ea_)); subst ec_; clear en_))
                         have GB58 := Aside0.mk gb58
                         have GG58 := Aside0.mk HG58
                         clear gb58 gl58 HG58
                         obtain ⟨hx58_0, hf58_0⟩ := Kd.R_celln 0 HL307_0.out (x31_2 : Int) p58 q58
                         replace p58 := eq_true p58
                         replace q58 := eq_true q58
                         have hq60 : (x18_1 : Int) < (x5_2.length : Int) := (by have h_ : (x18_1 : Int) < ((x5_2.length : Int) : Int) := of_decide_eq_true (by first | (with_reducible assumption) | assumption); first | exact h_ | (have e_ := (Kd.S_reads' HO_5.out).1; omega) | simpa only [List.length_set, List.length_set] using h_)
                         obtain ⟨oki60, ce60, hcl60, hM60, hcc60, hok60, hbk60⟩ := Kd.S_borrow HO_5.out [] (x18_1 : Int) (of_decide_eq_true (by first | (with_reducible assumption) | assumption)) hq60
                         obtain ⟨ve60_0, rfl, ge60_0⟩ := hM60
                         have hv60 := hcc60 0 _ rfl
                         rw [Nat.add_zero, show ((Kd.slice 39 (Kd.int .i8))).sz = 1 from rfl, Nat.mul_one] at hv60
                         replace hv60 := Option.some.inj (hv60.symm.trans HX307_0.out)
                         subst hv60
                         clear hcc60 hcl60
                         replace ge60_0 := (show Kd.R (Kd.int .i8) 39 _ _ _ _ (rd_L18 x5_2 x18_1) from ge60_0)
                         have HP60 := Kd.R_putg ge60_0 (x31_2 : Int) ji55
                         rw [← Ny308.out] at HP60
                         have HS60 := hbk60 HP60.2 (fun k_ e_ => by injection e_ with e_; subst e_; exact ge60_0.1 _ rfl) (x' := y308) (Kd.M_row HP60.1)
                         rw [← Ny310.out] at HS60
                         have HQ60 := Aside0.mk HS60
                         clear HP60 HS60 hbk60 hok60
                         refine start_ (n := 14) (S := fun w' => w'.cell? ⟨gb298, 0, none⟩ = some (.string ((rd_T81 l0_0 x31_2).f0)) ∧ w'.cell? ⟨gb298, 1, none⟩ = some (.int .i64 ((rd_T81 l0_0 x31_2).f1)) ∧ w'.cell? ⟨go15, (x18_1).toNat, none⟩ = some (.slice (some ⟨go58, 0, none⟩) (rd_L18 x5_2 x18_1).length c307_0)) (ds := [13]) #[false, false, false, false, false, false, false, false, false, false, false, false, false, false] (by kernel_rfl) rfl rfl ⟨(blk_cell BK298.out 0).trans rfl, (blk_cell BK298.out 1).trans rfl, hx307_0⟩ (fun hHeld => ?_); refine with_tabW impl_builder_lengths.tab19 impl_builder_lengths.bits19 (fun HT_ HW_ => ?_)
                         generalize wr.drew = w59 at HO_5 BK289 BK298 HB GG58 HL307_0 HQ60 HR307_0 HX307_0 hf58_0 hx307_0 hx58_0 hHeld ⊢
                         refine pu_ 0 (some 64) HT_ ?_
                         refine pu_ 1 (some 65) HT_ ?_
                         refine pu_ 2 (some 66) HT_ ?_
                         refine pu_ 4 (some 68) HT_ ?_
                         refine pu_ 5 (some 69) HT_ ?_
                         refine pu_ 6 (some 70) HT_ ?_
                         refine tk_ 3 (some 67) HT_ HW_ hHeld rfl (by rintro w' ⟨s0, s1, s2⟩; go_simp; with_reducible rfl) ?_
                         refine tk_ 7 (some 71) HT_ HW_ hHeld rfl (by rintro w' ⟨s0, s1, s2⟩; go_simp; with_reducible rfl) ?_
                         refine pu_ 8 (some 72) HT_ ?_
                         refine pu_ 9 (some 73) HT_ ?_
                         refine pu_ 10 (some 74) HT_ ?_
                         refine pu_ 11 (some 75) HT_ ?_
                         refine pu_ 12 (some 76) HT_ ?_
                         refine la_ 13 (none) HT_ fun K hK => ?_
                         refine skip_ (w1 := ?_) (by rfl) rfl ?_ ?_
                         rotate_left
                         ·go_simp
                          rfl
                         refine hK.out _ _ ?_
                         clear hK K
                         refine done_ (done_of HT_.out (by kernel_rfl)) ?_
                         try go_wp2
                         (try simp only [← hl5_2])
                         (try simp only [← hji47])
                         go_roundg k3
                         case measure => have := HK1.out; have := HK2.out; have := HK3.out; omega
                         case rel => exact ⟨(y310), (wrap64 (x31_2 + 1)), (by first | rfl | (simp; done) | (simp [*]; done)), (by first | exact H' | (rw [hji47]; exact H')), ⟨by have := HK1.out; have := HK2.out; have := HK3.out; omega⟩, ⟨by (try simp only [hl5_1]); (try simp only [hl5_2]); (with_reducible repeat (first | apply Kd.S_alloc | apply Kd.S_drewN | apply Kd.S_drew)); exact HQ60.out⟩, ⟨by (try simp only [hl5_1]); (try simp only [hl5_2]); (with_reducible repeat (first | refine blk_drewN ?_ _ | refine blk_drew ?_ | refine blk_alloc ?_ _)); refine blk_far ?_ (by have h_ := Kd.R_ne HL307_0.out BK289.out (by decide); intro e_; exact h_ (by rw [e_]; rfl)) _; (with_reducible repeat (first | refine blk_drewN ?_ _ | refine blk_drew ?_ | refine blk_alloc ?_ _)); exact BK289.out⟩, ⟨by repeat (first | (with_reducible first | exact HB.out | apply bwA | apply pwN | apply bw1 | refine below_set ?_ GB58.out | refine below_set ?_ GE289.out | refine below_set ?_ GE298.out) | exact HB.out)⟩⟩
                        ·rw [if_neg c57] at H
                         exact absurd H (by simp)
                       ·rw [if_neg c56] at H
                        exact absurd H (by simp)
                      ·rw [if_neg c54] at H
                       exact absurd H (by simp)
                     ·rw [if_neg c53] at H
                      exact absurd H (by simp)
                 ·rw [if_neg c39] at H
                  exact absurd H (by simp)
                ·rw [if_neg c38] at H
                 have c38b0 : decide (0 < (wrap64 (x18_1 - ((rd_T81 l0_0 x31_2).f1)))) = false := decide_eq_false c38
                 clear c38
                 by_cases c62 : 0 ≤ x18_1
                 ·rw [if_pos c62] at H
                  have c62b0 : decide (0 ≤ x18_1) = true := decide_eq_true c62
                  clear c62
                  by_cases c63 : x18_1 < (x5_2.length : Int)
                  ·rw [if_pos c63] at H
                   have c63b0 : decide (x18_1 < (x5_2.length : Int)) = true := decide_eq_true c63
                   clear c63
                   obtain ⟨ji64, hji64⟩ : ∃ j_ : Int, (mn (IntKind.i8.wrap (100 + (IntKind.i8.wrap ((((rd_T81 l0_0 x31_2).f0).size : Int))))) 100) = j_ := ⟨_, rfl⟩
                   replace H : (if x31_2 < ((rd_L18 x5_2 x18_1).length : Int) then (impl_builder_lengths.l1 k2 (x5_2.set (x18_1 : Int).toNat ((rd_L18 x5_2 x18_1).set (x31_2 : Int).toNat (ji64))) x18_1 (y290.length : Int) x18_1 l0_0 (l0_0.length : Int) (wrap64 (x31_2 + 1)) l0_0 l0_1) else (none)) = some r := by first | (rw [hji64] at H; exact H) | (simp only [hji64] at H ⊢; exact H)
                   have hji64_ : (if 100 < (IntKind.i8.wrap (100 + (IntKind.i8.wrap ((((rd_T81 l0_0 x31_2).f0).size : Int))))) then 100 else (IntKind.i8.wrap (100 + (IntKind.i8.wrap ((((rd_T81 l0_0 x31_2).f0).size : Int)))))) = ji64 := hji64
                   have hji64_z : (if 100 < (IntKind.i8.wrap (100 + (IntKind.i8.wrap ((((rd_T81 l0_0 x31_2).f0).size : Int))))) then 100 else (IntKind.i8.wrap (100 + (IntKind.i8.wrap ((((rd_T81 l0_0 x31_2).f0).size : Int)))))) = ji64 := by have h_ := hji64_; (try simp only [Int.zero_add] at h_); exact h_
                   have hji64_z : (if 100 < (IntKind.i8.wrap (100 + (IntKind.i8.wrap ((((rd_T81 l0_0 x31_2).f0).size : Int))))) then 100 else (IntKind.i8.wrap (100 + (IntKind.i8.wrap ((((rd_T81 l0_0 x31_2).f0).size : Int)))))) = ji64 := by have h_ := hji64_; (try simp only [Int.zero_add] at h_); exact h_
                   by_cases c65 : x31_2 < ((rd_L18 x5_2 x18_1).length : Int)
                   ·rw [if_pos c65] at H
                    have c65b0 : decide (x31_2 < ((rd_L18 x5_2 x18_1).length : Int)) = true := decide_eq_true c65
                    clear c65
                    obtain ⟨y312, hy312⟩ : ∃ y_ : List Int, y_ = ((rd_L18 x5_2 x18_1).set (x31_2 : Int).toNat (ji64)) := ⟨_, rfl⟩
                    replace H : (impl_builder_lengths.l1 k2 (x5_2.set (x18_1 : Int).toNat y312) x18_1 (y290.length : Int) x18_1 l0_0 (l0_0.length : Int) (wrap64 (x31_2 + 1)) l0_0 l0_1) = some r := by first | (rw [hy312]; with_reducible exact H) | (have H2_ := (Option.bind_some _ _).symm.trans H; rw [hy312]; with_reducible exact H2_) | (have H2_ := (Option.bind_some _ _).symm.trans H; with_reducible exact H2_) | with_reducible exact H | (rw [hy312]; exact H) | exact H
                    have Ny312 := Aside0.mk hy312
                    clear hy312
                    obtain ⟨y314, hy314⟩ : ∃ y_ : List (List Int), y_ = (x5_2.set (x18_1 : Int).toNat y312) := ⟨_, rfl⟩
                    replace H : (impl_builder_lengths.l1 k2 y314 x18_1 (y290.length : Int) x18_1 l0_0 (l0_0.length : Int) (wrap64 (x31_2 + 1)) l0_0 l0_1) = some r := by first | (rw [hy314]; with_reducible exact H) | (have H2_ := (Option.bind_some _ _).symm.trans H; rw [hy314]; with_reducible exact H2_) | (have H2_ := (Option.bind_some _ _).symm.trans H; with_reducible exact H2_) | with_reducible exact H | (rw [hy314]; exact H) | exact H
                    have Ny314 := Aside0.mk hy314
                    clear hy314
                    have H' := Aside0.mk H
                    clear H
                    have p297 : 0 ≤ (x31_2 : Int) := of_decide_eq_true (by first | (with_reducible assumption) | assumption)
                    have q297 : x31_2 < (l0_0.length : Int) := of_decide_eq_true (by first | (with_reducible assumption) | assumption)
                    obtain ⟨ad297, e297, hx297_0, hx297_1⟩ := at_T81 HR0_0.out x31_2 p297 q297
                    cases e297
                    replace hx297_0 := (HB.out.cell (World.block_lt_of_cell? w _ hx297_0)).trans hx297_0
                    replace hx297_1 := (HB.out.cell (World.block_lt_of_cell? w _ hx297_1)).trans hx297_1
                    replace p297 := eq_true p297
                    replace q297 := eq_true q297
                    try go_wp2_with (first | ((with_reducible refine gate_dst (N := 8) rfl ?_); refine box_event ?hg (N := 8) ?hd (cs := #[.string (⟨#[]⟩ : ByteArray), .int .i64 0]) (t := 81) ?hr ?_; (case hd => rfl); (case hg => rfl); (case hr => first | (go_simp; done) | (go_simp; rfl)); intro gb298 hg w67 hbox hb; have n0_ := Aside0.mk (Kd.S_below (by (with_reducible repeat (first | apply Kd.S_alloc | apply Kd.S_drewN | apply Kd.S_drew)); exact HO_5.out) hb); have n1_ := Aside0.mk (blk_below (g := gb289) (by (with_reducible repeat (first | refine blk_drewN ?_ _ | refine blk_drew ?_ | refine blk_alloc ?_ _)); exact BK289.out) hb); have n2_ := Aside0.mk (below_step (by repeat (first | (with_reducible first | exact HB.out | apply bwA | apply pwN | apply bw1 | refine below_set ?_ GE289.out) | exact HB.out)) hb); have n3_ := Aside0.mk (hbox); have n4_ := Aside0.mk ((by rw [hg]; exact (below_size (by repeat (first | (with_reducible first | exact HB.out | apply bwA | apply pwN | apply bw1 | refine below_set ?_ GE289.out) | exact HB.out))) : w.heap.size ≤ gb298)); have n5_ := Aside0.mk (n4_.out); have n6_ := Aside0.mk ((by rw [hg]; exact Nat.ne_of_lt (blk_lt (g := gb289) (by (with_reducible repeat (first | refine blk_drewN ?_ _ | refine blk_drew ?_ | refine blk_alloc ?_ _)); exact BK289.out)) : gb289 ≠ gb298)); have n7_ := Aside0.mk ((Ne.symm n6_.out)); clear HO_5; clear BK289; clear HB; have HO_5 := n0_; have BK289 := n1_; have HB := n2_; have BK298 := n3_; have GW298 := n4_; have GE298 := n5_; have NB289_298 := n6_; have NB298_289 := n7_; clear n0_ n1_ n2_ n3_ n4_ n5_ n6_ n7_; clear hb hbox hg; have hnb68 := NB298_289.out; have hnc68 := NB289_298.out; have hcz69_0 : w67.cell? ⟨gb298, 0, none⟩ = some (.string (⟨#[]⟩ : ByteArray)) := (blk_cell BK298.out 0).trans rfl; have hcz69_1 : w67.cell? ⟨gb298, 1, none⟩ = some (.int .i64 0) := (blk_cell BK298.out 1).trans rfl; have hfz69_0 := blk_frozen BK298.out 0; have hfz69_1 := blk_frozen BK298.out 1))
                    have n0_ : Aside0 (Kd.S (Kd.slice 39 (Kd.int .i8)) 124 ((w67.setCell ⟨gb298, 0, none⟩ (.string ((rd_T81 l0_0 x31_2).f0))).setCell ⟨gb298, 1, none⟩ (.int .i64 ((rd_T81 l0_0 x31_2).f1))) w.heap.size (fun _ => True) (.slice (some ⟨go15, 0, none⟩) x5_2.length co9) x5_2) := ⟨by (with_reducible repeat (first | apply Kd.S_alloc | apply Kd.S_drewN | apply Kd.S_drew)); exact Kd.S_mono (Kd.S_far (p := ⟨gb298, 1, none⟩) (Kd.S_far (p := ⟨gb298, 0, none⟩) (Kd.S_types HO_5.out BK298.out (by decide)) (fun _ hk => hk.2) (.string ((rd_T81 l0_0 x31_2).f0))) (fun _ hk => hk.2) (.int .i64 ((rd_T81 l0_0 x31_2).f1))) (fun _ hk => trivial)⟩
                    have n1_ : Aside0 (((w67.setCell ⟨gb298, 0, none⟩ (.string ((rd_T81 l0_0 x31_2).f0))).setCell ⟨gb298, 1, none⟩ (.int .i64 ((rd_T81 l0_0 x31_2).f1))).heap[gb289]? = some (.cells #[.slice (some ad297) l0_0.length c0_0, .slice A0_1 l0_1.length c0_1] 72 (0, 0))) := ⟨by (with_reducible repeat (first | refine blk_drewN ?_ _ | refine blk_drew ?_ | refine blk_alloc ?_ _)); refine blk_far ?_ NB289_298.out _; refine blk_far ?_ NB289_298.out _; (with_reducible repeat (first | refine blk_drewN ?_ _ | refine blk_drew ?_ | refine blk_alloc ?_ _)); exact BK289.out⟩
                    have n2_ : Aside0 (((w67.setCell ⟨gb298, 0, none⟩ (.string ((rd_T81 l0_0 x31_2).f0))).setCell ⟨gb298, 1, none⟩ (.int .i64 ((rd_T81 l0_0 x31_2).f1))).heap[gb298]? = some (.cells #[.string ((rd_T81 l0_0 x31_2).f0), .int .i64 ((rd_T81 l0_0 x31_2).f1)] 81 (0, 0))) := ⟨by (with_reducible repeat (first | refine blk_drewN ?_ _ | refine blk_drew ?_ | refine blk_alloc ?_ _)); refine blk_put (cs := #[.string ((rd_T81 l0_0 x31_2).f0), .int .i64 0]) ?_ 1 _ rfl; refine blk_put (cs := #[.string (⟨#[]⟩ : ByteArray), .int .i64 0]) ?_ 0 _ rfl; (with_reducible repeat (first | refine blk_drewN ?_ _ | refine blk_drew ?_ | refine blk_alloc ?_ _)); exact BK298.out⟩
                    have n3_ : Aside0 (Below w.heap.size w ((w67.setCell ⟨gb298, 0, none⟩ (.string ((rd_T81 l0_0 x31_2).f0))).setCell ⟨gb298, 1, none⟩ (.int .i64 ((rd_T81 l0_0 x31_2).f1)))) := ⟨by repeat (first | (with_reducible first | exact HB.out | apply bwA | apply pwN | apply bw1 | refine below_set ?_ GE289.out | refine below_set ?_ GE298.out) | exact HB.out)⟩
                    (try clear HO_5)
                    (try clear BK289)
                    (try clear BK298)
                    (try clear HB)
                    generalize ((w67.setCell ⟨gb298, 0, none⟩ (.string ((rd_T81 l0_0 x31_2).f0))).setCell ⟨gb298, 1, none⟩ (.int .i64 ((rd_T81 l0_0 x31_2).f1))) = w70 at n0_ n1_ n2_ n3_ ⊢
                    have HO_5 := n0_
                    have BK289 := n1_
                    have BK298 := n2_
                    have HB := n3_
                    clear n0_ n1_ n2_ n3_
                    have n0_ := Aside0.mk (Kd.S_drew HO_5.out)
                    have n1_ := Aside0.mk (blk_drew BK289.out)
                    have n2_ := Aside0.mk (blk_drew BK298.out)
                    have n3_ := Aside0.mk (bw1 HB.out)
                    clear HO_5
                    clear BK289
                    clear BK298
                    clear HB
                    have HO_5 := n0_
                    have BK289 := n1_
                    have BK298 := n2_
                    have HB := n3_
                    clear n0_ n1_ n2_ n3_
                    have p311 : 0 ≤ (x18_1 : Int) := of_decide_eq_true (by first | (with_reducible assumption) | assumption)
                    have q311 : x18_1 < (x5_2.length : Int) := of_decide_eq_true (by first | (with_reducible assumption) | assumption)
                    obtain ⟨ad311, A311_0, c311_0, e311, hx311_0, hl311_0, hi311_0⟩ := at_L18 (Kd.S_reads' HO_5.out).2.2 x18_1 p311 q311
                    obtain rfl : (⟨go15, 0, none⟩ : Addr) = ad311 := (by injection e311)
                    obtain ⟨ce311, hce311, hMe311, hcc311⟩ := Kd.S_get HO_5.out [] x18_1 p311 (by first | exact q311 | exact of_decide_eq_true (by first | (with_reducible assumption) | assumption) | (have e_ := (Kd.S_reads' HO_5.out).1; omega))
                    obtain ⟨ve311_0, rfl, ge311_0⟩ := hMe311
                    have hv311_0 := hcc311 0 _ rfl
                    rw [Nat.add_zero, show ((Kd.slice 39 (Kd.int .i8))).sz = 1 from rfl, Nat.mul_one] at hv311_0
                    replace hv311_0 := Option.some.inj (hv311_0.symm.trans hx311_0)
                    rw [hv311_0] at ge311_0
                    have HL311_0 := Aside0.mk (show Kd.R (Kd.int .i8) 39 _ _ _ _ (rd_L18 x5_2 x18_1) from ge311_0)
                    clear hv311_0 ge311_0
                    have HX311_0 := Aside0.mk hx311_0
                    clear hcc311 hce311
                    (first | simp only [add_plain] at hx311_0 | simp only [add_at] at hx311_0 | simp only [Addr.add, Nat.zero_add] at hx311_0 | skip)
                    have HR311_0 := Aside0.mk hi311_0
                    have HC311_0 := Aside0.mk hl311_0
                    clear hi311_0 hl311_0
                    replace p311 := eq_true p311
                    replace q311 := eq_true q311
                    have p66 : 0 ≤ (x31_2 : Int) := of_decide_eq_true (by first | (with_reducible assumption) | assumption)
                    have q66 : (x31_2 : Int) < (((rd_L18 x5_2 x18_1).length : Int) : Int) := of_decide_eq_true (by first | (with_reducible assumption) | assumption)
                    obtain ⟨go66, co66, eo66, gb66, gl66, cl66, HG66⟩ := Kd.R_form HL311_0.out (by omega)
                    (first | cases eo66 | (injection eo66 with ea_ en_ ec_; (first | subst ea_ | (injection ea_ with ea_; subst ea_)); subst ec_; clear en_))
                    have GB66 := Aside0.mk gb66
                    have GG66 := Aside0.mk HG66
                    clear gb66 gl66 HG66
                    obtain ⟨hx66_0, hf66_0⟩ := Kd.R_celln 0 HL311_0.out (x31_2 : Int) p66 q66
                    replace p66 := eq_true p66
                    replace q66 := eq_true q66
                    have hq72 : (x18_1 : Int) < (x5_2.length : Int) := (by have h_ : (x18_1 : Int) < ((x5_2.length : Int) : Int) := of_decide_eq_true (by first | (with_reducible assumption) | assumption); first | exact h_ | (have e_ := (Kd.S_reads' HO_5.out).1; omega) | simpa only [List.length_set, List.length_set] using h_)
                    obtain ⟨oki72, ce72, hcl72, hM72, hcc72, hok72, hbk72⟩ := Kd.S_borrow HO_5.out [] (x18_1 : Int) (of_decide_eq_true (by first | (with_reducible assumption) | assumption)) hq72
                    obtain ⟨ve72_0, rfl, ge72_0⟩ := hM72
                    have hv72 := hcc72 0 _ rfl
                    rw [Nat.add_zero, show ((Kd.slice 39 (Kd.int .i8))).sz = 1 from rfl, Nat.mul_one] at hv72
                    replace hv72 := Option.some.inj (hv72.symm.trans HX311_0.out)
                    subst hv72
                    clear hcc72 hcl72
                    replace ge72_0 := (show Kd.R (Kd.int .i8) 39 _ _ _ _ (rd_L18 x5_2 x18_1) from ge72_0)
                    have HP72 := Kd.R_putg ge72_0 (x31_2 : Int) ji64
                    rw [← Ny312.out] at HP72
                    have HS72 := hbk72 HP72.2 (fun k_ e_ => by injection e_ with e_; subst e_; exact ge72_0.1 _ rfl) (x' := y312) (Kd.M_row HP72.1)
                    rw [← Ny314.out] at HS72
                    have HQ72 := Aside0.mk HS72
                    clear HP72 HS72 hbk72 hok72
                    refine start_ (n := 14) (S := fun w' => w'.cell? ⟨gb298, 0, none⟩ = some (.string ((rd_T81 l0_0 x31_2).f0)) ∧ w'.cell? ⟨gb298, 1, none⟩ = some (.int .i64 ((rd_T81 l0_0 x31_2).f1)) ∧ w'.cell? ⟨go15, (x18_1).toNat, none⟩ = some (.slice (some ⟨go66, 0, none⟩) (rd_L18 x5_2 x18_1).length c311_0)) (ds := [13]) #[false, false, false, false, false, false, false, false, false, false, false, false, false, false] (by kernel_rfl) rfl rfl ⟨(blk_cell BK298.out 0).trans rfl, (blk_cell BK298.out 1).trans rfl, hx311_0⟩ (fun hHeld => ?_); refine with_tabW impl_builder_lengths.tab19 impl_builder_lengths.bits19 (fun HT_ HW_ => ?_)
                    generalize w70.drew = w71 at HO_5 BK289 BK298 HB GG66 HL311_0 HQ72 HR311_0 HX311_0 hf66_0 hx311_0 hx66_0 hHeld ⊢
                    refine pu_ 0 (some 64) HT_ ?_
                    refine pu_ 1 (some 65) HT_ ?_
                    refine pu_ 2 (some 66) HT_ ?_
                    refine pu_ 4 (some 68) HT_ ?_
                    refine pu_ 5 (some 69) HT_ ?_
                    refine pu_ 6 (some 70) HT_ ?_
                    refine tk_ 3 (some 67) HT_ HW_ hHeld rfl (by rintro w' ⟨s0, s1, s2⟩; go_simp; with_reducible rfl) ?_
                    refine tk_ 7 (some 71) HT_ HW_ hHeld rfl (by rintro w' ⟨s0, s1, s2⟩; go_simp; with_reducible rfl) ?_
                    refine pu_ 8 (some 72) HT_ ?_
                    refine pu_ 9 (some 73) HT_ ?_
                    refine pu_ 10 (some 74) HT_ ?_
                    refine pu_ 11 (some 75) HT_ ?_
                    refine pu_ 12 (some 76) HT_ ?_
                    refine la_ 13 (none) HT_ fun K hK => ?_
                    refine skip_ (w1 := ?_) (by rfl) rfl ?_ ?_
                    rotate_left
                    ·go_simp
                     rfl
                    refine hK.out _ _ ?_
                    clear hK K
                    refine done_ (done_of HT_.out (by kernel_rfl)) ?_
                    try go_wp2
                    (try simp only [← hl5_2])
                    go_roundg k2
                    case measure => have := HK1.out; have := HK2.out; omega
                    case rel => exact ⟨(y314), (wrap64 (x31_2 + 1)), (by first | rfl | (simp; done) | (simp [*]; done)), H', ⟨by have := HK1.out; have := HK2.out; omega⟩, ⟨by (try simp only [hl5_1]); (try simp only [hl5_2]); (with_reducible repeat (first | apply Kd.S_alloc | apply Kd.S_drewN | apply Kd.S_drew)); exact HQ72.out⟩, ⟨by (try simp only [hl5_1]); (try simp only [hl5_2]); (with_reducible repeat (first | refine blk_drewN ?_ _ | refine blk_drew ?_ | refine blk_alloc ?_ _)); refine blk_far ?_ (by have h_ := Kd.R_ne HL311_0.out BK289.out (by decide); intro e_; exact h_ (by rw [e_]; rfl)) _; (with_reducible repeat (first | refine blk_drewN ?_ _ | refine blk_drew ?_ | refine blk_alloc ?_ _)); exact BK289.out⟩, ⟨by repeat (first | (with_reducible first | exact HB.out | apply bwA | apply pwN | apply bw1 | refine below_set ?_ GB66.out | refine below_set ?_ GE289.out | refine below_set ?_ GE298.out) | exact HB.out)⟩⟩
                   ·rw [if_neg c65] at H
                    exact absurd H (by simp)
                  ·rw [if_neg c63] at H
                   exact absurd H (by simp)
                 ·rw [if_neg c62] at H
                  exact absurd H (by simp)
              ·rw [if_neg c24] at H
               exact absurd H (by simp)
             ·rw [if_neg c23] at H
              exact absurd H (by simp)
            ·rw [if_neg c22] at H
             have c22b0 : decide (x31_2 < (l0_0.length : Int)) = false := decide_eq_false c22
             clear c22
             have H' := Aside0.mk H
             clear H
             go_wp2
             (try simp only [← hl5_1, ← hl5_2])
             go_roundg k2
             case measure => have := HK1.out; have := HK2.out; omega
             case rel => exact ⟨(x5_2), (wrap64 (x18_1 + 1)), (by first | rfl | (simp; done) | (simp [*]; done)), H', ⟨by have := HK1.out; have := HK2.out; omega⟩, ⟨by (try simp only [hl5_1]); (try simp only [hl5_2]); (with_reducible repeat (first | apply Kd.S_alloc | apply Kd.S_drewN | apply Kd.S_drew)); exact HO_5.out⟩, ⟨by (try simp only [hl5_1]); (try simp only [hl5_2]); (with_reducible repeat (first | refine blk_drewN ?_ _ | refine blk_drew ?_ | refine blk_alloc ?_ _)); exact BK289.out⟩, ⟨by repeat (first | (with_reducible first | exact HB.out | apply bwA | apply pwN | apply bw1 | refine below_set ?_ GE289.out) | exact HB.out)⟩⟩
         ·rw [if_neg c14] at H
          exact absurd H (by simp)
        ·rw [if_neg c13] at H
         exact absurd H (by simp)
       ·rw [if_neg c12] at H
        exact absurd H (by simp)
      ·rw [if_neg c11] at H
       exact absurd H (by simp)
     ·rw [if_neg c10] at H
      have c10b0 : decide (x18_1 < (y290.length : Int)) = false := decide_eq_false c10
      have c_lenslip_ := c10b0
      (try rw [hl5_1] at c_lenslip_)
      clear c10
      obtain rfl := Option.some.inj H
      go_wp2
      go_ret
      exact ⟨_, by first | rfl | (simp [errW_none, errW_some] <;> rfl) | (simp only [← hji3]; first | rfl | (simp [errW_none, errW_some] <;> rfl)) | (simp [*, errW_none, errW_some] <;> rfl), by (with_reducible repeat (first | apply Kd.S_alloc | apply Kd.S_drewN | apply Kd.S_drew)); exact HO_5.out, by repeat (first | (with_reducible first | exact HB.out | apply bwA | apply pwN | apply bw1 | refine below_set ?_ GE289.out) | exact HB.out)⟩
  ·rw [if_neg c5] at H
   exact absurd H (by simp)
 ·rw [if_neg c4] at H
  exact absurd H (by simp)
end Go.Proofs.Ytlepbhlbooajmaa.Q
namespace Go.Proofs.Ytlepbhlbooajmaa.Ext
end Go.Proofs.Ytlepbhlbooajmaa.Ext
namespace Go.Proofs.Ytlepbhlbooajmaa.Q
open Go.Proofs.Ytlepbhlbooajmaa.Ext
open Go.RowKit Go.Proofs.YtlepbhlbooajmaaW.PrintWords Go.Proofs.YtlepbhlbooajmaaW.PrintLast Go.Proofs.YtlepbhlbooajmaaW.PrintMore
attribute [local go_sem] max2_int min2_int max_two min_two max_three min_three max_four min_four
set_option linter.unusedVariables false
set_option linter.unusedSimpArgs false
def spec_l03Number.f (a0 : Int) : Option (Bool) := (spec_l00In.f a0 0 10000).bind fun t193 => (some t193)
set_option maxHeartbeats 8000000 in
set_option maxRecDepth 100000 in
theorem spec_l03Number.calls (a0 : Int) (r : Bool) (w : World) (h : spec_l03Number.f a0 = some r) :
  Calls Try.prog 38 #[.int .i64 a0] w fun e w' => e = .returned (.bool r) ∧ Drawn0 w w' := by
 have H : ((spec_l00In.f a0 0 10000).bind fun t193 => (some t193)) = some r := h
 clear h
 replace H := Option.bind_eq_some_iff.mp H
 obtain ⟨t193, A20, H⟩ := H
 replace H : (some t193) = some r := H
 have A2 := Aside0.mk A20
 clear A20
 obtain rfl := Option.some.inj H
 go_enter Try.func38, Try.ntmps38
 go_wp2_with (first | ((with_reducible refine gate_callee (f := 24) rfl ?_); refine goesL_ (some 4) rfl rfl Try.func24 (by kernel_rfl) rfl #[.int .i64 a0, .int .i64 0, .int .i64 10000] rfl (by (try simp only [List.map_toArray, List.map_cons, List.map_nil]); first | done | rfl | (simp only [List.length_drop, List.length_take]; rfl)) ?_; (with_reducible refine (spec_l00In.calls a0 0 10000 t193 _ A2.out).mono ?_); rintro e w' ⟨rfl, ⟨nd, rfl⟩⟩; refine ⟨_, rfl, ?_⟩))
 go_ret
 exact ⟨by first | rfl | (simp; done) | (simp [*]; done), by repeat (first | exact Drawn0.refl _ | apply Drawn0.step)⟩
def spec_l00Min.f (a0 : Int) (a1 : Int) : Option (Int) := if a0 < a1 then (some a0) else (some a1)
set_option maxHeartbeats 8000000 in
set_option maxRecDepth 100000 in
theorem spec_l00Min.calls (a0 a1 r : Int) (w : World) (h : spec_l00Min.f a0 a1 = some r) :
  Calls Try.prog 69 #[.int .i64 a0, .int .i64 a1] w fun e w' => e = .returned (.int .i64 r) ∧ Drawn0 w w' := by
 have H : (if a0 < a1 then (some a0) else (some a1)) = some r := h
 clear h
 by_cases c3 : a0 < a1
 ·rw [if_pos c3] at H
  have c3b0 : decide (a0 < a1) = true := decide_eq_true c3
  clear c3
  obtain rfl := Option.some.inj H
  go_enter Try.func69, Try.ntmps69
  go_wp2
  go_ret
  exact ⟨by first | rfl | (simp; done) | (simp [*]; done), by repeat (first | exact Drawn0.refl _ | apply Drawn0.step)⟩
 ·rw [if_neg c3] at H
  have c3b0 : decide (a0 < a1) = false := decide_eq_false c3
  clear c3
  obtain rfl := Option.some.inj H
  go_enter Try.func69, Try.ntmps69
  go_wp2
  go_ret
  exact ⟨by first | rfl | (simp; done) | (simp [*]; done), by repeat (first | exact Drawn0.refl _ | apply Drawn0.step)⟩
end Go.Proofs.Ytlepbhlbooajmaa.Q
namespace Go.Proofs.Ytlepbhlbooajmaa.Ext
end Go.Proofs.Ytlepbhlbooajmaa.Ext
namespace Go.Proofs.Ytlepbhlbooajmaa.Q
open Go.Proofs.Ytlepbhlbooajmaa.Ext
open Go.RowKit Go.Proofs.YtlepbhlbooajmaaW.PrintWords Go.Proofs.YtlepbhlbooajmaaW.PrintLast Go.Proofs.YtlepbhlbooajmaaW.PrintMore
attribute [local go_sem] max2_int min2_int max_two min_two max_three min_three max_four min_four
set_option linter.unusedVariables false
set_option linter.unusedSimpArgs false
mutual
def spec_l03Lens.l0 : Nat → List (S108) → List (List Bool) → Int → List (List Int) → Int → Option ((List (List Int)))
 | 0, _, _, _, _, _ => none
 | k + 1, x0, x1, x2, x7, x8 => if x8 ≤ x2 then (if 0 ≤ (wrap64 ((x0.length : Int) + 1)) then (if (wrap64 ((x0.length : Int) + 1) : Int).toNat ≤ 35184372088832 then (spec_l03Lens.l1 k x0 x1 x2 x7 x8 (List.replicate (wrap64 ((x0.length : Int) + 1) : Int).toNat 0) 0) else (none)) else (none)) else (some x7)
def spec_l03Lens.l1 : Nat → List (S108) → List (List Bool) → Int → List (List Int) → Int → List Int → Int → Option ((List (List Int)))
 | 0, _, _, _, _, _, _, _ => none
 | k + 1, x0, x1, x2, x7, x8, x9, x10 => if x10 ≤ (x0.length : Int) then (spec_l03Lens.j2 k x0 x1 x2 x7 x8 x9 x10 (decide (x8 > 0))) else (spec_l03Lens.j2 k x0 x1 x2 x7 x8 x9 x10 false)
def spec_l03Lens.j2 : Nat → List (S108) → List (List Bool) → Int → List (List Int) → Int → List Int → Int → Bool → Option ((List (List Int)))
 | 0, _, _, _, _, _, _, _, _ => none
 | k + 1, x0, x1, x2, x7, x8, x9, x10, x29 => if x29 = true then (if 0 ≤ x10 then (if x10 < (x9.length : Int) then (spec_l03Lens.l2 k x0 x1 x2 x7 x8 (x9.set (x10 : Int).toNat 1000000) x10 0) else (none)) else (none)) else (if x7.length < 5864062014805 then (spec_l03Lens.l0 k x0 x1 x2 (x7 ++ [x9]) (wrap64 (x8 + 1))) else (none))
def spec_l03Lens.l2 : Nat → List (S108) → List (List Bool) → Int → List (List Int) → Int → List Int → Int → Int → Option ((List (List Int)))
 | 0, _, _, _, _, _, _, _, _ => none
 | k + 1, x0, x1, x2, x7, x8, x9, x10, x11 => if x11 < (x0.length : Int) then (if 0 ≤ x10 then (if x10 < (x1.length : Int) then (if 0 ≤ x11 then (if x11 < ((rd_L11 x1 x10).length : Int) then (if rdOf false (rd_L11 x1 x10) x11 = true then (if ((rd_T108 x0 x11).f1) ≤ x8 then (if x10 < (x9.length : Int) then (if 0 ≤ (wrap64 (x8 - ((rd_T108 x0 x11).f1))) then (if (wrap64 (x8 - ((rd_T108 x0 x11).f1))) < (x7.length : Int) then (if x11 < ((rd_L12 x7 (wrap64 (x8 - ((rd_T108 x0 x11).f1)))).length : Int) then ((spec_l00Min.f (rd x9 x10) (wrap64 ((((rd_T108 x0 x11).f0).size : Int) + (rd (rd_L12 x7 (wrap64 (x8 - ((rd_T108 x0 x11).f1)))) x11)))).bind fun t212 => (spec_l03Lens.l2 k x0 x1 x2 x7 x8 (x9.set (x10 : Int).toNat t212) x10 (wrap64 (x11 + 1)))) else (none)) else (none)) else (none)) else (none)) else (spec_l03Lens.l2 k x0 x1 x2 x7 x8 x9 x10 (wrap64 (x11 + 1)))) else (spec_l03Lens.l2 k x0 x1 x2 x7 x8 x9 x10 (wrap64 (x11 + 1)))) else (none)) else (none)) else (none)) else (none)) else (spec_l03Lens.l1 k x0 x1 x2 x7 x8 x9 (wrap64 (x10 + 1)))
end
def spec_l03Lens.f (k : Nat) (l0 : List (S108)) (l1 : List (List Bool)) (a2 : Int) : Option ((List (List Int))) := spec_l03Lens.l0 k l0 l1 a2 (([] : List (List Int))) 0
def spec_l03Lens.T14 : Bool × List (List Nat × List Nat) := (true, [([], []), ([], []), ([], []), ([], []), ([2, 3], [2, 3]), ([4], [4]), ([], []), ([], []), ([6, 7], [6, 7]), ([8], [8]), ([9], [9]), ([10], [10]), ([], []), ([], []), ([], []), ([], []), ([14, 15], [14, 15]), ([16], [16]), ([17], [17]), ([13, 18], [13, 18]), ([12, 19], [12, 19]), ([20], [20]), ([], []), ([21, 22], [21, 22]), ([23], [23]), ([11, 24], [11, 24]), ([5, 25], [5, 25]), ([0, 1, 0, 1, 2, 3, 4, 5, 6, 7, 8, 9, 10, 11, 12, 13, 14, 15, 16, 17, 18, 19, 20, 21, 22, 23, 24, 25, 26], [0, 1]), ([27, 26, 26, 0, 1, 2, 3, 4, 5, 6, 7, 8, 9, 10, 11, 12, 13, 14, 15, 16, 17, 18, 19, 20, 21, 22, 23, 24, 25, 26], [26, 27])])
def spec_l03Lens.B14 : List Nat := [0, 0, 0, 0, 12, 28, 0, 0, 192, 448, 960, 1984, 0, 0, 0, 0, 49152, 114688, 245760, 516096, 1044480, 2093056, 0, 8384512, 16773120, 33554368, 67108860, 134217727, 268435455]
theorem spec_l03Lens.tab14 : rtab .any (opsOf Try.f39 14) = spec_l03Lens.T14 := by kernel_rfl
theorem spec_l03Lens.bits14 : waitsOk spec_l03Lens.T14.2 spec_l03Lens.B14 = true := by kernel_rfl
set_option maxHeartbeats 8000000 in
set_option maxRecDepth 100000 in
theorem spec_l03Lens.calls (k : Nat) (A0 : Option Addr) (c0 : Nat) (l0 : List (S108)) (A1 : Option Addr) (c1 : Nat) (l1 : List (List Bool)) (a2 : Int) (r : List (List Int)) (w : World) (hr0 : Kd.C k108 w A0 l0.length l0) (hc0 : l0.length ≤ c0) (hr1 : Kd.C (Kd.slice 4 Kd.bool) w A1 l1.length l1) (hc1 : l1.length ≤ c1) (h : spec_l03Lens.f k l0 l1 a2 = some r) :
  Calls Try.prog 39 #[.slice A0 l0.length c0, .slice A1 l1.length c1, .int .i64 a2] w fun e w' => ∃ v0_ : Value, e = .returned (v0_) ∧ Kd.S (Kd.slice 2 (Kd.int .i64)) 64 w' w.heap.size (fun _ => True) v0_ r ∧ Below w.heap.size w w' := by
 have HR0 := Aside0.mk hr0
 have HC0 := Aside0.mk hc0
 clear hr0 hc0
 have HR1 := Aside0.mk hr1
 have HC1 := Aside0.mk hc1
 clear hr1 hc1
 have HB := Aside0.mk (Below.refl w.heap.size w)
 have H : (spec_l03Lens.l0 k l0 l1 a2 (([] : List (List Int))) 0) = some r := h
 clear h
 obtain ⟨y194, hy194⟩ : ∃ y_ : List (List Int), y_ = (([] : List (List Int))) := ⟨_, rfl⟩
 replace H : (spec_l03Lens.l0 k l0 l1 a2 y194 0) = some r := by first | (rw [hy194]; with_reducible exact H) | (have H2_ := (Option.bind_some _ _).symm.trans H; rw [hy194]; with_reducible exact H2_) | (have H2_ := (Option.bind_some _ _).symm.trans H; with_reducible exact H2_) | with_reducible exact H | (rw [hy194]; exact H) | exact H
 have Ny194 := Aside0.mk hy194
 clear hy194
 have H' := Aside0.mk H
 clear H
 go_enter Try.func39, Try.ntmps39
 go_wp2_with (first | ((with_reducible refine gate_dst (N := 12) rfl ?_); refine Kd.S_lit (Kd.slice 2 (Kd.int .i64)) _ 64 ?hg (N := 12) ?hd (xs := ([] : List (List Int))) (inner := []) (ok := fun _ => True) (okp := fun _ => True) ?hr ?hp (fun _ hk => hk) trivial (Below.refl _ _) (Nat.le_refl _) (by simp) ?_; (case hd => rfl); (case hg => rfl); (case hr => first | (go_simp; done) | (go_simp; rfl)); (case hp => exact (Reps.none _ _)); intro v195 w4 ho5 hb hg_ hnew_; clear hg_ hnew_; (first | rw [← Ny194.out] at ho5 | (simp only [Int.reduceToNat] at ho5; rw [← Ny194.out] at ho5)); have n0_ := Aside0.mk (Kd.S_lower ho5 (below_size (by repeat (first | (with_reducible first | exact HB.out | apply bwA | apply pwN | apply bw1) | exact HB.out)))); have n1_ := Aside0.mk (below_step (by repeat (first | (with_reducible first | exact HB.out | apply bwA | apply pwN | apply bw1) | exact HB.out)) hb); clear HB; have HO196 := n0_; have HB := n1_; clear n0_ n1_; clear hb ho5))
 go_loopg [7, 8] k (fun kq v7 v8 w' => ∃ (x7_1 : List (List Int)) (x8_1 : Int), v8 = .int .i64 x8_1 ∧ Aside0 (spec_l03Lens.l0 kq l0 l1 a2 x7_1 x8_1 = some r) ∧ Aside0 (kq ≤ k) ∧ Aside0 (Kd.S (Kd.slice 2 (Kd.int .i64)) 64 w' w.heap.size (fun _ => True) v7 x7_1) ∧ Aside0 (Below w.heap.size w w'))
 case atStart => exact ⟨(y194), (0), (by first | rfl | (simp; done) | (simp [*]; done)), H', ⟨Nat.le_refl _⟩, ⟨by (with_reducible repeat (first | apply Kd.S_alloc | apply Kd.S_drewN | apply Kd.S_drew)); exact HO196.out⟩, ⟨by repeat (first | (with_reducible first | exact HB.out | apply bwA | apply pwN | apply bw1) | exact HB.out)⟩⟩
 case round =>
  clear H'
  try clear c1
  try clear p2
  try clear c3
  obtain ⟨x7_1, x8_1, rfl, HA, HK1, HO_7, HB⟩ := hrel
  cases gk with
  | zero => exact absurd HA.out (by simp [spec_l03Lens.l0])
  | succ k1 =>
   have H := HA.out
   clear HA
   simp only [spec_l03Lens.l0] at H
   by_cases c6 : x8_1 ≤ a2
   ·rw [if_pos c6] at H
    have c6b0 : decide (x8_1 ≤ a2) = true := decide_eq_true c6
    clear c6
    obtain ⟨ji7, hji7⟩ : ∃ j_ : Int, (wrap64 ((l0.length : Int) + 1)) = j_ := ⟨_, rfl⟩
    replace H : (if 0 ≤ (ji7) then (if (ji7 : Int).toNat ≤ 35184372088832 then (spec_l03Lens.l1 k1 l0 l1 a2 x7_1 x8_1 (List.replicate (ji7 : Int).toNat 0) 0) else (none)) else (none)) = some r := by first | (rw [hji7] at H; exact H) | (simp only [hji7] at H ⊢; exact H)
    have hji7w : (IntKind.i64.wrap ((l0.length : Int) + 1)) = ji7 := (i64_w _).trans hji7
    by_cases c8 : 0 ≤ (ji7)
    ·rw [if_pos c8] at H
     have c8b0 := eq_true c8
     have c8b1 : decide (0 ≤ (ji7)) = true := decide_eq_true c8
     clear c8
     by_cases c9 : (ji7 : Int).toNat ≤ 35184372088832
     ·rw [if_pos c9] at H
      have c9b0 := eq_true c9
      have c9b1 : decide ((ji7 : Int).toNat ≤ 35184372088832) = true := decide_eq_true c9
      clear c9
      obtain ⟨y197, hy197⟩ : ∃ y_ : List Int, y_ = (List.replicate (ji7 : Int).toNat 0) := ⟨_, rfl⟩
      replace H : (spec_l03Lens.l1 k1 l0 l1 a2 x7_1 x8_1 y197 0) = some r := by first | (rw [hy197]; with_reducible exact H) | (have H2_ := (Option.bind_some _ _).symm.trans H; rw [hy197]; with_reducible exact H2_) | (have H2_ := (Option.bind_some _ _).symm.trans H; with_reducible exact H2_) | with_reducible exact H | (rw [hy197]; exact H) | exact H
      have Ny197 := Aside0.mk hy197
      clear hy197
      have H' := Aside0.mk H
      clear H
      go_wp2_with (first | ((with_reducible refine gate_dst (N := 21) rfl ?_); refine Kd.R_make (Kd.int .i64) _ 2 rfl (N := 21) rfl 64 _ _ rfl ji7 rfl rfl Try.underlying64 (.int .i64 0) 8 info2 rfl (by decide) (by omega) 0 (ok := fun _ => True) (okp := fun _ => True) rfl (fun _ hk => hk) trivial (of_decide_eq_true (by first | (with_reducible assumption) | assumption)) (Nat.le_trans (Nat.mul_le_mul_right _ (of_decide_eq_true (by first | (with_reducible assumption) | assumption) : ji7.toNat ≤ 35184372088832)) (by omega)) (Below.refl _ _) (Nat.le_refl _) ?_; intro v198 w10 ho11 hb hg_ hnew_; clear hg_ hnew_; (first | rw [← Ny197.out] at ho11 | (simp only [Int.reduceToNat] at ho11; rw [← Ny197.out] at ho11)); have n0_ := Aside0.mk (Kd.S_elder' (by (with_reducible repeat (first | apply Kd.S_alloc | apply Kd.S_drewN | apply Kd.S_drew)); exact HO_7.out) (Kd.R_base ho11) hb); have n1_ := Aside0.mk (Kd.R_lower ho11 (below_size (by repeat (first | (with_reducible first | exact HB.out | apply bwA | apply pwN | apply bw1) | exact HB.out)))); have n2_ := Aside0.mk (below_step (by repeat (first | (with_reducible first | exact HB.out | apply bwA | apply pwN | apply bw1) | exact HB.out)) hb); clear HO_7; clear HB; have HO_7 := n0_; have HO199 := n1_; have HB := n2_; clear n0_ n1_ n2_; clear hb ho11))
      go_loopg [10] k1 (fun kq v10 w' => ∃ (x9_2 : List Int) (x10_2 : Int), v10 = .int .i64 x10_2 ∧ Aside0 (spec_l03Lens.l1 kq l0 l1 a2 x7_1 x8_1 x9_2 x10_2 = some r) ∧ Aside0 (kq ≤ k1) ∧ Aside0 (Kd.S (Kd.slice 2 (Kd.int .i64)) 64 w' w.heap.size (fun k_ => some k_ ≠ (v198 : Value).ownBlock) u7 x7_1) ∧ Aside0 (Kd.R (Kd.int .i64) 2 w' w.heap.size (fun _ => True) v198 x9_2) ∧ Aside0 (Below w.heap.size w w'))
      case atStart => exact ⟨(y197), (0), (by first | rfl | (simp; done) | (simp [*]; done)), H', ⟨Nat.le_refl _⟩, ⟨by (with_reducible repeat (first | apply Kd.S_alloc | apply Kd.S_drewN | apply Kd.S_drew)); exact Kd.S_mono HO_7.out (fun _ hk => hk.2)⟩, ⟨by (with_reducible repeat (first | apply Kd.R_alloc | apply Kd.R_drewN | apply Kd.R_drew)); exact HO199.out⟩, ⟨by repeat (first | (with_reducible first | exact HB.out | apply bwA | apply pwN | apply bw1) | exact HB.out)⟩⟩
      case round =>
       clear H'
       try clear c1
       try clear p2
       try clear c3
       try clear c6
       try clear c6b0
       try clear p6
       try clear c8
       try clear c8b0
       try clear c8b1
       try clear c9
       try clear c9b0
       try clear c9b1
       try clear p2
       obtain ⟨x9_2, x10_2, rfl, HA, HK2, HO_7, HO_9, HB⟩ := hrel
       cases gk with
       | zero => exact absurd HA.out (by simp [spec_l03Lens.l1])
       | succ k2 =>
        have H := HA.out
        clear HA
        simp only [spec_l03Lens.l1] at H
        have HC12 := Aside0.mk H
        clear H
        go_upto_region 7 with (fail)
        go_cut [29] (fun v29 wc => ∃ (kq : Nat) (x29_11 : Bool), v29 = .bool x29_11 ∧ Aside0 (spec_l03Lens.j2 kq l0 l1 a2 x7_1 x8_1 x9_2 x10_2 x29_11 = some r) ∧ Aside0 (kq ≤ k2) ∧ Aside0 (Kd.S (Kd.slice 2 (Kd.int .i64)) 64 wc w.heap.size (fun k_ => some k_ ≠ (v198 : Value).ownBlock) u7 x7_1) ∧ Aside0 (Kd.R (Kd.int .i64) 2 wc w.heap.size (fun _ => True) v198 x9_2) ∧ Aside0 (Below w.heap.size w wc))
        case first =>
         have H := HC12.out
         clear HC12
         by_cases c13 : x10_2 ≤ (l0.length : Int)
         ·rw [if_pos c13] at H
          have c13b0 : decide (x10_2 ≤ (l0.length : Int)) = true := decide_eq_true c13
          clear c13
          (first | rw [c13b0] | (simp only [i64_w, i32_w]; rw [c13b0]) | skip)
          have H' := Aside0.mk H
          clear H
          go_wp2
          go_meet
          case rel => exact ⟨_, (decide (x8_1 > 0)), (by first | rfl | (simp; done) | (simp [*]; done)), H', ⟨by have := HK1.out; have := HK2.out; first | omega | exact Nat.le_refl _⟩, ⟨by (with_reducible repeat (first | apply Kd.S_alloc | apply Kd.S_drewN | apply Kd.S_drew)); exact HO_7.out⟩, ⟨by (with_reducible repeat (first | apply Kd.R_alloc | apply Kd.R_drewN | apply Kd.R_drew)); exact HO_9.out⟩, ⟨by repeat (first | (with_reducible first | exact HB.out | apply bwA | apply pwN | apply bw1) | exact HB.out)⟩⟩
         ·rw [if_neg c13] at H
          have c13b0 : decide (x10_2 ≤ (l0.length : Int)) = false := decide_eq_false c13
          clear c13
          (first | rw [c13b0] | (simp only [i64_w, i32_w]; rw [c13b0]) | skip)
          have H' := Aside0.mk H
          clear H
          go_wp2
          go_meet
          case rel => exact ⟨_, (false), (by first | rfl | (simp; done) | (simp [*]; done)), H', ⟨by have := HK1.out; have := HK2.out; first | omega | exact Nat.le_refl _⟩, ⟨by (with_reducible repeat (first | apply Kd.S_alloc | apply Kd.S_drewN | apply Kd.S_drew)); exact HO_7.out⟩, ⟨by (with_reducible repeat (first | apply Kd.R_alloc | apply Kd.R_drewN | apply Kd.R_drew)); exact HO_9.out⟩, ⟨by repeat (first | (with_reducible first | exact HB.out | apply bwA | apply pwN | apply bw1) | exact HB.out)⟩⟩
        case rest =>
         clear HC12
         try clear c1
         try clear p2
         try clear c3
         try clear c6
         try clear c6b0
         try clear p6
         try clear c8
         try clear c8b0
         try clear c8b1
         try clear c9
         try clear c9b0
         try clear c9b1
         try clear c13
         try clear c13b0
         try clear p2
         try clear p6
         obtain ⟨kq, x29_11, rfl, HA, HJ11, HO_7, HO_9, HB⟩ := hcut
         cases kq with
         | zero => exact absurd HA.out (by simp [spec_l03Lens.j2])
         | succ kj11 =>
          have H := HA.out
          clear HA
          simp only [spec_l03Lens.j2] at H
          by_cases c14 : x29_11 = true
          ·subst c14
           rw [if_pos rfl] at H
           have H1 := H
           clear H
           have H := H1
           clear H1
           by_cases c15 : 0 ≤ x10_2
           ·rw [if_pos c15] at H
            have c15b0 : decide (0 ≤ x10_2) = true := decide_eq_true c15
            clear c15
            by_cases c16 : x10_2 < (x9_2.length : Int)
            ·rw [if_pos c16] at H
             have c16b0 : decide (x10_2 < (x9_2.length : Int)) = true := decide_eq_true c16
             clear c16
             obtain ⟨y203, hy203⟩ : ∃ y_ : List Int, y_ = (x9_2.set (x10_2 : Int).toNat 1000000) := ⟨_, rfl⟩
             replace H : (spec_l03Lens.l2 kj11 l0 l1 a2 x7_1 x8_1 y203 x10_2 0) = some r := by first | (rw [hy203]; with_reducible exact H) | (have H2_ := (Option.bind_some _ _).symm.trans H; rw [hy203]; with_reducible exact H2_) | (have H2_ := (Option.bind_some _ _).symm.trans H; with_reducible exact H2_) | with_reducible exact H | (rw [hy203]; exact H) | exact H
             have Ny203 := Aside0.mk hy203
             clear hy203
             have H' := Aside0.mk H
             clear H
             have p17 : 0 ≤ (x10_2 : Int) := of_decide_eq_true (by first | (with_reducible assumption) | assumption)
             have q17 : (x10_2 : Int) < ((x9_2.length : Int) : Int) := of_decide_eq_true (by first | (with_reducible assumption) | assumption)
             obtain ⟨go17, co17, eo17, gb17, gl17, cl17, HG17⟩ := Kd.R_form HO_9.out (by omega)
             (first | cases eo17 | (injection eo17 with ea_ en_ ec_; (first | subst ea_ | (injection ea_ with ea_; subst ea_)); subst ec_; clear en_))
             have GB17 := Aside0.mk gb17
             have GG17 := Aside0.mk HG17
             clear gb17 gl17 HG17
             obtain ⟨hx17_0, hf17_0⟩ := Kd.R_celln 0 HO_9.out (x10_2 : Int) p17 q17
             replace p17 := eq_true p17
             replace q17 := eq_true q17
             have HP18 := Kd.R_putg HO_9.out (x10_2 : Int) 1000000
             go_wp2_with (first | ((with_reducible refine gate_store (t := 2) (p := 34) rfl ?_); refine store_event (t := 2) (p := 34) (v := ?vo_w19) (w1 := (wc.setCell ⟨go17, (x10_2 : Int).toNat, none⟩ (.int .i64 1000000))) ?hg ?ho ?hn ?hr ?_; (case ho => rfl); (case hg => rfl); (case hn => rfl); (case hr => first | (go_simp; done) | (go_simp; rfl)); intro w19 hw; have hg : wc.grownBy w19 (some go17) := (by rw [hw]; exact HP18.2); have hp_ : Kd.R (Kd.int .i64) 2 w19 w.heap.size (fun _ => True) (.slice (some ⟨go17, 0, none⟩) x9_2.length co17) y203 := (by rw [hw, Ny203.out]; exact HP18.1); clear HP18; have n0_ := Aside0.mk (Kd.S_after (v := (.slice (some ⟨go17, 0, none⟩) x9_2.length co17)) (v1 := (.slice (some ⟨go17, 0, none⟩) x9_2.length co17)) (ok := (fun _ => True)) (by (with_reducible repeat (first | apply Kd.S_alloc | apply Kd.S_drewN | apply Kd.S_drew)); exact Kd.S_mono HO_7.out (fun _ hk => ⟨trivial, hk⟩)) hg (.inl rfl)); have n1_ := Aside0.mk (hp_); have n2_ := Aside0.mk ((by rw [hw]; exact below_set (HB.out) GB17.out : Below w.heap.size w w19)); clear HO_7; clear HO_9; clear HB; have HO_7 := n0_; have HO_9 := n1_; have HB := n2_; clear n0_ n1_ n2_; clear hg hw hp_))
             go_loopg [11] kj11 (fun kq v11 w' => ∃ (x9_4 : List Int) (x11_4 : Int), v11 = .int .i64 x11_4 ∧ Aside0 (spec_l03Lens.l2 kq l0 l1 a2 x7_1 x8_1 x9_4 x10_2 x11_4 = some r) ∧ Aside0 (kq ≤ kj11) ∧ Aside0 (Kd.S (Kd.slice 2 (Kd.int .i64)) 64 w' w.heap.size (fun k_ => some k_ ≠ ((.slice (some ⟨go17, 0, none⟩) x9_2.length co17) : Value).ownBlock) u7 x7_1) ∧ Aside0 (Kd.R (Kd.int .i64) 2 w' w.heap.size (fun _ => True) (.slice (some ⟨go17, 0, none⟩) x9_2.length co17) x9_4) ∧ Aside0 (Below w.heap.size w w'))
             case atStart => exact ⟨(y203), (0), (by first | rfl | (simp; done) | (simp [*]; done)), H', ⟨Nat.le_refl _⟩, ⟨by (with_reducible repeat (first | apply Kd.S_alloc | apply Kd.S_drewN | apply Kd.S_drew)); exact Kd.S_mono HO_7.out (fun _ hk => hk.2)⟩, ⟨by (with_reducible repeat (first | apply Kd.R_alloc | apply Kd.R_drewN | apply Kd.R_drew)); exact HO_9.out⟩, ⟨by repeat (first | (with_reducible first | exact HB.out | apply bwA | apply pwN | apply bw1) | exact HB.out)⟩⟩
             case round =>
              clear H'
              try clear c1
              try clear p1
              try clear q1
              try clear hx1
              try clear p2
              try clear c3
              try clear c6
              try clear c6b0
              try clear p6
              try clear c8
              try clear c8b0
              try clear c8b1
              try clear c9
              try clear c9b0
              try clear c9b1
              try clear c13
              try clear c13b0
              try clear c14
              try clear c15
              try clear c15b0
              try clear c16
              try clear c16b0
              try clear p17
              try clear q17
              try clear hx17
              try clear hf17
              try clear hx17_0
              try clear p17
              try clear p2
              try clear p6
              try clear q17
              obtain ⟨x9_4, x11_4, rfl, HA, HK4, HO_7, HO_9, HB⟩ := hrel
              have hl9_4 := (Kd.R_reads' HO_9.out).1
              rw [hl9_4] at HO_9
              (try simp only [hl9_4])
              (try simp only [hl9_4] at HO_7)
              cases gk with
              | zero => exact absurd HA.out (by simp [spec_l03Lens.l2])
              | succ k4 =>
               have H := HA.out
               clear HA
               simp only [spec_l03Lens.l2] at H
               by_cases c20 : x11_4 < (l0.length : Int)
               ·rw [if_pos c20] at H
                have c20b0 : decide (x11_4 < (l0.length : Int)) = true := decide_eq_true c20
                clear c20
                by_cases c21 : 0 ≤ x10_2
                ·rw [if_pos c21] at H
                 have c21b0 : decide (0 ≤ x10_2) = true := decide_eq_true c21
                 clear c21
                 by_cases c22 : x10_2 < (l1.length : Int)
                 ·rw [if_pos c22] at H
                  have c22b0 : decide (x10_2 < (l1.length : Int)) = true := decide_eq_true c22
                  clear c22
                  by_cases c23 : 0 ≤ x11_4
                  ·rw [if_pos c23] at H
                   have c23b0 : decide (0 ≤ x11_4) = true := decide_eq_true c23
                   clear c23
                   by_cases c24 : x11_4 < ((rd_L11 l1 x10_2).length : Int)
                   ·rw [if_pos c24] at H
                    have c24b0 : decide (x11_4 < ((rd_L11 l1 x10_2).length : Int)) = true := decide_eq_true c24
                    clear c24
                    obtain ⟨bq25, hbq25⟩ : ∃ b_ : Bool, b_ = (rdOf false (rd_L11 l1 x10_2) x11_4) := ⟨_, rfl⟩
                    replace H : (if bq25 = true then (if ((rd_T108 l0 x11_4).f1) ≤ x8_1 then (if x10_2 < (x9_4.length : Int) then (if 0 ≤ (wrap64 (x8_1 - ((rd_T108 l0 x11_4).f1))) then (if (wrap64 (x8_1 - ((rd_T108 l0 x11_4).f1))) < (x7_1.length : Int) then (if x11_4 < ((rd_L12 x7_1 (wrap64 (x8_1 - ((rd_T108 l0 x11_4).f1)))).length : Int) then ((spec_l00Min.f (rd x9_4 x10_2) (wrap64 ((((rd_T108 l0 x11_4).f0).size : Int) + (rd (rd_L12 x7_1 (wrap64 (x8_1 - ((rd_T108 l0 x11_4).f1)))) x11_4)))).bind fun t212 => (spec_l03Lens.l2 k4 l0 l1 a2 x7_1 x8_1 (x9_4.set (x10_2 : Int).toNat t212) x10_2 (wrap64 (x11_4 + 1)))) else (none)) else (none)) else (none)) else (none)) else (spec_l03Lens.l2 k4 l0 l1 a2 x7_1 x8_1 x9_4 x10_2 (wrap64 (x11_4 + 1)))) else (spec_l03Lens.l2 k4 l0 l1 a2 x7_1 x8_1 x9_4 x10_2 (wrap64 (x11_4 + 1)))) = some r := by rw [← hbq25] at H; exact H
                    have Nbq25 := Aside0.mk hbq25
                    clear hbq25
                    by_cases c26 : bq25 = true
                    ·subst c26
                     rw [if_pos rfl] at H
                     have H1 := H
                     clear H
                     have H := H1
                     clear H1
                     by_cases c27 : ((rd_T108 l0 x11_4).f1) ≤ x8_1
                     ·rw [if_pos c27] at H
                      have c27b0 : decide (((rd_T108 l0 x11_4).f1) ≤ x8_1) = true := decide_eq_true c27
                      clear c27
                      by_cases c28 : x10_2 < (x9_4.length : Int)
                      ·rw [if_pos c28] at H
                       have c28b0 : decide (x10_2 < (x9_4.length : Int)) = true := decide_eq_true c28
                       clear c28
                       obtain ⟨ji29, hji29⟩ : ∃ j_ : Int, (wrap64 (x8_1 - ((rd_T108 l0 x11_4).f1))) = j_ := ⟨_, rfl⟩
                       replace H : (if 0 ≤ (ji29) then (if (ji29) < (x7_1.length : Int) then (if x11_4 < ((rd_L12 x7_1 (ji29)).length : Int) then ((spec_l00Min.f (rd x9_4 x10_2) (wrap64 ((((rd_T108 l0 x11_4).f0).size : Int) + (rd (rd_L12 x7_1 (ji29)) x11_4)))).bind fun t212 => (spec_l03Lens.l2 k4 l0 l1 a2 x7_1 x8_1 (x9_4.set (x10_2 : Int).toNat t212) x10_2 (wrap64 (x11_4 + 1)))) else (none)) else (none)) else (none)) = some r := by first | (rw [hji29] at H; exact H) | (simp only [hji29] at H ⊢; exact H)
                       have hji29w : (IntKind.i64.wrap (x8_1 - ((rd_T108 l0 x11_4).f1))) = ji29 := (i64_w _).trans hji29
                       by_cases c30 : 0 ≤ (ji29)
                       ·rw [if_pos c30] at H
                        have c30b0 : decide (0 ≤ (ji29)) = true := decide_eq_true c30
                        clear c30
                        by_cases c31 : (ji29) < (x7_1.length : Int)
                        ·rw [if_pos c31] at H
                         have c31b0 : decide ((ji29) < (x7_1.length : Int)) = true := decide_eq_true c31
                         clear c31
                         by_cases c32 : x11_4 < ((rd_L12 x7_1 (ji29)).length : Int)
                         ·rw [if_pos c32] at H
                          have c32b0 : decide (x11_4 < ((rd_L12 x7_1 (ji29)).length : Int)) = true := decide_eq_true c32
                          clear c32
                          replace H := Option.bind_eq_some_iff.mp H
                          obtain ⟨t212, A330, H⟩ := H
                          (try dsimp only at H)
                          have A33 := Aside0.mk A330
                          clear A330
                          obtain ⟨y213, hy213⟩ : ∃ y_ : List Int, y_ = (x9_4.set (x10_2 : Int).toNat t212) := ⟨_, rfl⟩
                          replace H : (spec_l03Lens.l2 k4 l0 l1 a2 x7_1 x8_1 y213 x10_2 (wrap64 (x11_4 + 1))) = some r := by first | (rw [hy213]; with_reducible exact H) | (have H2_ := (Option.bind_some _ _).symm.trans H; rw [hy213]; with_reducible exact H2_) | (have H2_ := (Option.bind_some _ _).symm.trans H; with_reducible exact H2_) | with_reducible exact H | (rw [hy213]; exact H) | exact H
                          have Ny213 := Aside0.mk hy213
                          clear hy213
                          have H' := Aside0.mk H
                          clear H
                          have p204 : 0 ≤ (x10_2 : Int) := of_decide_eq_true (by first | (with_reducible assumption) | assumption)
                          have q204 : x10_2 < (l1.length : Int) := of_decide_eq_true (by first | (with_reducible assumption) | assumption)
                          obtain ⟨ad204, A204_0, c204_0, e204, hx204_0, hl204_0, hi204_0⟩ := at_L11 HR1.out x10_2 p204 q204
                          cases e204
                          replace hx204_0 := (HB.out.cell (World.block_lt_of_cell? w _ hx204_0)).trans hx204_0
                          have HR204_0 := Aside0.mk hi204_0
                          have HC204_0 := Aside0.mk hl204_0
                          clear hi204_0 hl204_0
                          replace p204 := eq_true p204
                          replace q204 := eq_true q204
                          have p205 : 0 ≤ (x11_4 : Int) := of_decide_eq_true (by first | (with_reducible assumption) | assumption)
                          have q205 : x11_4 < ((rd_L11 l1 x10_2).length : Int) := of_decide_eq_true (by first | (with_reducible assumption) | assumption)
                          obtain ⟨ad205, e205, hx205_0⟩ := Kd.at_bool HR204_0.out x11_4 p205 q205
                          (try rw [← Nbq25.out] at hx205_0)
                          cases e205
                          replace hx205_0 := (HB.out.cell (World.block_lt_of_cell? w _ hx205_0)).trans hx205_0
                          replace p205 := eq_true p205
                          replace q205 := eq_true q205
                          have p206 : 0 ≤ (x11_4 : Int) := of_decide_eq_true (by first | (with_reducible assumption) | assumption)
                          have q206 : x11_4 < (l0.length : Int) := of_decide_eq_true (by first | (with_reducible assumption) | assumption)
                          obtain ⟨ad206, e206, hx206_0, hx206_1⟩ := at_T108 HR0.out x11_4 p206 q206
                          cases e206
                          replace hx206_0 := (HB.out.cell (World.block_lt_of_cell? w _ hx206_0)).trans hx206_0
                          replace hx206_1 := (HB.out.cell (World.block_lt_of_cell? w _ hx206_1)).trans hx206_1
                          replace p206 := eq_true p206
                          replace q206 := eq_true q206
                          try go_wp2
                          have n0_ := Aside0.mk (Kd.S_drew HO_7.out)
                          have n1_ := Aside0.mk (Kd.R_drew HO_9.out)
                          have n2_ := Aside0.mk (bw1 HB.out)
                          clear HO_7
                          clear HO_9
                          clear HB
                          have HO_7 := n0_
                          have HO_9 := n1_
                          have HB := n2_
                          clear n0_ n1_ n2_
                          have p207 : 0 ≤ (x10_2 : Int) := of_decide_eq_true (by first | (with_reducible assumption) | assumption)
                          have q207 : x10_2 < (x9_4.length : Int) := of_decide_eq_true (by first | (with_reducible assumption) | assumption)
                          obtain ⟨ad207, e207, hx207_0⟩ := Kd.at_int (Kd.R_reads' HO_9.out).2.2 x10_2 p207 q207
                          obtain rfl : (⟨go17, 0, none⟩ : Addr) = ad207 := (by injection e207)
                          (first | simp only [add_plain] at hx207_0 | simp only [add_at] at hx207_0 | simp only [Addr.add, Nat.zero_add] at hx207_0 | skip)
                          replace p207 := eq_true p207
                          replace q207 := eq_true q207
                          have p208 : 0 ≤ (x11_4 : Int) := of_decide_eq_true (by first | (with_reducible assumption) | assumption)
                          have q208 : x11_4 < (l0.length : Int) := of_decide_eq_true (by first | (with_reducible assumption) | assumption)
                          obtain ⟨ad208, e208, hx208_0, hx208_1⟩ := at_T108 HR0.out x11_4 p208 q208
                          have hw208_1 := hx208_1
                          have hw208_0 := hx208_0
                          obtain rfl : ad206 = ad208 := (by injection e208)
                          replace hx208_0 := (HB.out.cell (World.block_lt_of_cell? w _ hx208_0)).trans hx208_0
                          replace hx208_1 := (HB.out.cell (World.block_lt_of_cell? w _ hx208_1)).trans hx208_1
                          replace p208 := eq_true p208
                          replace q208 := eq_true q208
                          have p209 : 0 ≤ (x11_4 : Int) := of_decide_eq_true (by first | (with_reducible assumption) | assumption)
                          have q209 : x11_4 < (l0.length : Int) := of_decide_eq_true (by first | (with_reducible assumption) | assumption)
                          obtain ⟨ad209, e209, hx209_0, hx209_1⟩ := at_T108 HR0.out x11_4 p209 q209
                          have hw209_1 := hx209_1
                          have hw209_0 := hx209_0
                          obtain rfl : ad206 = ad209 := (by injection e209)
                          replace hx209_0 := (HB.out.cell (World.block_lt_of_cell? w _ hx209_0)).trans hx209_0
                          replace hx209_1 := (HB.out.cell (World.block_lt_of_cell? w _ hx209_1)).trans hx209_1
                          replace p209 := eq_true p209
                          replace q209 := eq_true q209
                          obtain ⟨Ao36, co36, eo36⟩ := Kd.S_slice HO_7.out
                          (first | subst eo36 | (injection eo36 with f1_ f2_ f3_; have f4_ := f1_.symm; have f5_ := f3_.symm; clear f1_ f2_ f3_; subst f4_; subst f5_))
                          have p210 : 0 ≤ ((ji29) : Int) := of_decide_eq_true (by first | (with_reducible assumption) | assumption)
                          have q210 : (ji29) < (x7_1.length : Int) := of_decide_eq_true (by first | (with_reducible assumption) | assumption)
                          obtain ⟨ad210, A210_0, c210_0, e210, hx210_0, hl210_0, hi210_0⟩ := at_L12 (Kd.S_reads' HO_7.out).2.2 (ji29) p210 q210
                          cases e210
                          obtain ⟨ce210, hce210, hMe210, hcc210⟩ := Kd.S_get HO_7.out [] (ji29) p210 (by first | exact q210 | exact of_decide_eq_true (by first | (with_reducible assumption) | assumption) | (have e_ := (Kd.S_reads' HO_7.out).1; omega))
                          obtain ⟨ve210_0, rfl, ge210_0⟩ := hMe210
                          have hv210_0 := hcc210 0 _ rfl
                          rw [Nat.add_zero, show ((Kd.slice 2 (Kd.int .i64))).sz = 1 from rfl, Nat.mul_one] at hv210_0
                          replace hv210_0 := Option.some.inj (hv210_0.symm.trans hx210_0)
                          rw [hv210_0] at ge210_0
                          have HL210_0 := Aside0.mk (show Kd.R (Kd.int .i64) 2 _ _ _ _ (rd_L12 x7_1 (ji29)) from ge210_0)
                          clear hv210_0 ge210_0
                          clear hcc210 hce210
                          have HR210_0 := Aside0.mk hi210_0
                          have HC210_0 := Aside0.mk hl210_0
                          clear hi210_0 hl210_0
                          replace p210 := eq_true p210
                          replace q210 := eq_true q210
                          have p211 : 0 ≤ (x11_4 : Int) := of_decide_eq_true (by first | (with_reducible assumption) | assumption)
                          have q211 : x11_4 < ((rd_L12 x7_1 (ji29)).length : Int) := of_decide_eq_true (by first | (with_reducible assumption) | assumption)
                          obtain ⟨ad211, e211, hx211_0⟩ := Kd.at_int (by repeat (first | (with_reducible exact HR210_0.out) | (with_reducible refine Kd.C_alloc ?_ _) | (with_reducible refine Kd.C_drewN ?_ _) | (with_reducible refine Kd.C_drew ?_) | exact HR210_0.out)) x11_4 p211 q211
                          cases e211
                          replace p211 := eq_true p211
                          replace q211 := eq_true q211
                          refine start_ (n := 29) (S := fun w' => w'.cell? ⟨go17, (x10_2).toNat, none⟩ = some (.int .i64 (rd x9_4 x10_2)) ∧ w'.cell? (ad206.add ((x11_4).toNat * 2)) = some (.string ((rd_T108 l0 x11_4).f0)) ∧ w'.cell? ⟨(ad206.add ((x11_4).toNat * 2)).block, (ad206.add ((x11_4).toNat * 2)).off + 1, none⟩ = some (.int .i64 ((rd_T108 l0 x11_4).f1)) ∧ w'.cell? (ad206.add ((x11_4).toNat * 2)) = some (.string ((rd_T108 l0 x11_4).f0)) ∧ w'.cell? ⟨(ad206.add ((x11_4).toNat * 2)).block, (ad206.add ((x11_4).toNat * 2)).off + 1, none⟩ = some (.int .i64 ((rd_T108 l0 x11_4).f1)) ∧ w'.cell? (ad210.add ((ji29)).toNat) = some (.slice (some ad211) (rd_L12 x7_1 (ji29)).length c210_0) ∧ w'.cell? (ad211.add (x11_4).toNat) = some (.int .i64 (rd (rd_L12 x7_1 (ji29)) x11_4))) (ds := [28]) #[false, false, false, false, false, false, false, false, false, false, false, false, false, false, false, false, false, false, false, false, false, false, false, false, false, false, false, false, false] (by kernel_rfl) rfl rfl ⟨hx207_0, ((HB.out.cell (World.block_lt_of_cell? w _ hw208_0)).trans hw208_0), ((HB.out.cell (World.block_lt_of_cell? w _ hw208_1)).trans hw208_1), ((HB.out.cell (World.block_lt_of_cell? w _ hw209_0)).trans hw209_0), ((HB.out.cell (World.block_lt_of_cell? w _ hw209_1)).trans hw209_1), hx210_0, hx211_0⟩ (fun hHeld => ?_); refine with_tabW spec_l03Lens.tab14 spec_l03Lens.bits14 (fun HT_ HW_ => ?_)
                          generalize wr.drew = w35 at HO_7 HO_9 HB HL210_0 HR210_0 hx207_0 hx208_0 hx208_1 hx209_0 hx209_1 hx210_0 hx211_0 hHeld ⊢
                          refine pu_ 0 (some 57) HT_ ?_
                          refine pu_ 1 (some 58) HT_ ?_
                          refine pu_ 2 (some 59) HT_ ?_
                          refine pu_ 3 (some 60) HT_ ?_
                          refine pu_ 4 (some 61) HT_ ?_
                          refine pu_ 6 (some 63) HT_ ?_
                          refine pu_ 7 (some 64) HT_ ?_
                          refine pu_ 8 (some 65) HT_ ?_
                          refine pu_ 9 (some 66) HT_ ?_
                          refine pu_ 12 (some 69) HT_ ?_
                          refine pu_ 13 (some 70) HT_ ?_
                          refine pu_ 14 (some 71) HT_ ?_
                          refine pu_ 15 (some 72) HT_ ?_
                          refine pu_ 16 (some 73) HT_ ?_
                          refine pu_ 17 (some 74) HT_ ?_
                          refine pu_ 22 (some 79) HT_ ?_
                          refine tk_ 5 (some 62) HT_ HW_ hHeld rfl (by rintro w' ⟨s0, s1, s2, s3, s4, s5, s6⟩; go_simp; with_reducible rfl) ?_
                          refine tk_ 10 (some 67) HT_ HW_ hHeld rfl (by rintro w' ⟨s0, s1, s2, s3, s4, s5, s6⟩; go_simp; with_reducible rfl) ?_
                          refine pu_ 11 (some 68) HT_ ?_
                          refine tk_ 18 (some 75) HT_ HW_ hHeld rfl (by rintro w' ⟨s0, s1, s2, s3, s4, s5, s6⟩; go_simp; with_reducible rfl) ?_
                          refine pu_ 19 (some 76) HT_ ?_
                          refine pu_ 20 (some 77) HT_ ?_
                          refine tk_ 21 (some 78) HT_ HW_ hHeld rfl (by rintro w' ⟨s0, s1, s2, s3, s4, s5, s6⟩; go_simp; with_reducible rfl) ?_
                          refine pu_ 23 (some 80) HT_ ?_
                          refine tk_ 24 (some 81) HT_ HW_ hHeld rfl (by rintro w' ⟨s0, s1, s2, s3, s4, s5, s6⟩; go_simp; with_reducible rfl) ?_
                          refine pu_ 25 (some 82) HT_ ?_
                          refine on_ 26 (some 83) HT_ fun K hK => ?_
                          refine goes_ Try.func69 (by kernel_rfl) rfl #[.int .i64 (rd x9_4 x10_2), .int .i64 (wrap64 ((((rd_T108 l0 x11_4).f0).size : Int) + (rd (rd_L12 x7_1 (ji29)) x11_4)))] (by rfl) rfl rfl (by (try simp only [List.map_toArray, List.map_cons, List.map_nil]); first | done | (simp only [hji29]; rfl) | rfl | (simp only [List.length_drop, List.length_take]; rfl)) ?_
                          with_reducible refine (spec_l00Min.calls (rd x9_4 x10_2) (wrap64 ((((rd_T108 l0 x11_4).f0).size : Int) + (rd (rd_L12 x7_1 (ji29)) x11_4))) t212 _ A33.out).mono ?_
                          rintro e w' ⟨rfl, ⟨nd, rfl⟩⟩
                          refine ⟨_, rfl, ?_⟩
                          have p34 : 0 ≤ (x10_2 : Int) := of_decide_eq_true (by first | (with_reducible assumption) | assumption)
                          have q34 : (x10_2 : Int) < ((x9_4.length : Int) : Int) := of_decide_eq_true (by first | (with_reducible assumption) | assumption)
                          obtain ⟨hx34_0, hf34_0⟩ := Kd.R_celln 0 HO_9.out (x10_2 : Int) p34 q34
                          replace p34 := eq_true p34
                          replace q34 := eq_true q34
                          have HP37 := Kd.R_putn HO_9.out (x10_2 : Int) t212
                          rw [← Ny213.out] at HP37
                          have HQ37 := Aside0.mk HP37
                          clear HP37
                          refine hK.out _ _ ⟨hHeld.1, ((HB.out.cell (World.block_lt_of_cell? w _ hw208_0)).trans hw208_0), ((HB.out.cell (World.block_lt_of_cell? w _ hw208_1)).trans hw208_1), ((HB.out.cell (World.block_lt_of_cell? w _ hw209_0)).trans hw209_0), ((HB.out.cell (World.block_lt_of_cell? w _ hw209_1)).trans hw209_1), hHeld.2.2.2.2.2.1, hHeld.2.2.2.2.2.2⟩ (fun hHeld => ?_)
                          clear hK K
                          refine nm_ (some 83) ?_
                          refine pu_ 27 (some 84) HT_ ?_
                          refine la_ 28 (none) HT_ fun K hK => ?_
                          refine skip_ (w1 := ?_) (by rfl) rfl ?_ ?_
                          rotate_left
                          ·go_simp
                           rfl
                          refine hK.out _ _ ?_
                          clear hK K
                          refine done_ (done_of HT_.out (by kernel_rfl)) ?_
                          try go_wp2
                          (try simp only [← hl9_4])
                          go_roundg k4
                          case measure => have := HK1.out; have := HK2.out; have := HJ11.out; have := HK4.out; omega
                          case rel => exact ⟨(y213), (wrap64 (x11_4 + 1)), (by first | rfl | (simp; done) | (simp [*]; done)), H', ⟨by have := HK1.out; have := HK2.out; have := HJ11.out; have := HK4.out; omega⟩, ⟨by (try simp only [hl9_4]); (with_reducible repeat (first | apply Kd.S_alloc | apply Kd.S_drewN | apply Kd.S_drew)); exact Kd.S_mono (Kd.S_far (p := ⟨go17, (x10_2 : Int).toNat, none⟩) (Kd.S_mono HO_7.out (fun k_ hk => (⟨hk, fun e_ => hk (by rw [e_]; rfl)⟩ : _ ∧ k_ ≠ go17))) (fun _ hk => hk.2) (.int .i64 t212)) (fun _ hk => hk.1)⟩, ⟨by (try simp only [hl9_4]); (with_reducible repeat (first | apply Kd.R_alloc | apply Kd.R_drewN | apply Kd.R_drew)); exact HQ37.out⟩, ⟨by repeat (first | (with_reducible first | exact HB.out | apply bwA | apply pwN | apply bw1 | refine below_set ?_ GB17.out) | exact HB.out)⟩⟩
                         ·rw [if_neg c32] at H
                          exact absurd H (by simp)
                        ·rw [if_neg c31] at H
                         exact absurd H (by simp)
                       ·rw [if_neg c30] at H
                        exact absurd H (by simp)
                      ·rw [if_neg c28] at H
                       exact absurd H (by simp)
                     ·rw [if_neg c27] at H
                      have c27b0 : decide (((rd_T108 l0 x11_4).f1) ≤ x8_1) = false := decide_eq_false c27
                      clear c27
                      have H' := Aside0.mk H
                      clear H
                      have p204 : 0 ≤ (x10_2 : Int) := of_decide_eq_true (by first | (with_reducible assumption) | assumption)
                      have q204 : x10_2 < (l1.length : Int) := of_decide_eq_true (by first | (with_reducible assumption) | assumption)
                      obtain ⟨ad204, A204_0, c204_0, e204, hx204_0, hl204_0, hi204_0⟩ := at_L11 HR1.out x10_2 p204 q204
                      cases e204
                      replace hx204_0 := (HB.out.cell (World.block_lt_of_cell? w _ hx204_0)).trans hx204_0
                      have HR204_0 := Aside0.mk hi204_0
                      have HC204_0 := Aside0.mk hl204_0
                      clear hi204_0 hl204_0
                      replace p204 := eq_true p204
                      replace q204 := eq_true q204
                      have p205 : 0 ≤ (x11_4 : Int) := of_decide_eq_true (by first | (with_reducible assumption) | assumption)
                      have q205 : x11_4 < ((rd_L11 l1 x10_2).length : Int) := of_decide_eq_true (by first | (with_reducible assumption) | assumption)
                      obtain ⟨ad205, e205, hx205_0⟩ := Kd.at_bool HR204_0.out x11_4 p205 q205
                      (try rw [← Nbq25.out] at hx205_0)
                      cases e205
                      replace hx205_0 := (HB.out.cell (World.block_lt_of_cell? w _ hx205_0)).trans hx205_0
                      replace p205 := eq_true p205
                      replace q205 := eq_true q205
                      have p206 : 0 ≤ (x11_4 : Int) := of_decide_eq_true (by first | (with_reducible assumption) | assumption)
                      have q206 : x11_4 < (l0.length : Int) := of_decide_eq_true (by first | (with_reducible assumption) | assumption)
                      obtain ⟨ad206, e206, hx206_0, hx206_1⟩ := at_T108 HR0.out x11_4 p206 q206
                      cases e206
                      replace hx206_0 := (HB.out.cell (World.block_lt_of_cell? w _ hx206_0)).trans hx206_0
                      replace hx206_1 := (HB.out.cell (World.block_lt_of_cell? w _ hx206_1)).trans hx206_1
                      replace p206 := eq_true p206
                      replace q206 := eq_true q206
                      go_wp2
                      (try simp only [← hl9_4])
                      go_roundg k4
                      case measure => have := HK1.out; have := HK2.out; have := HJ11.out; have := HK4.out; omega
                      case rel => exact ⟨(x9_4), (wrap64 (x11_4 + 1)), (by first | rfl | (simp; done) | (simp [*]; done)), H', ⟨by have := HK1.out; have := HK2.out; have := HJ11.out; have := HK4.out; omega⟩, ⟨by (try simp only [hl9_4]); (with_reducible repeat (first | apply Kd.S_alloc | apply Kd.S_drewN | apply Kd.S_drew)); exact HO_7.out⟩, ⟨by (try simp only [hl9_4]); (with_reducible repeat (first | apply Kd.R_alloc | apply Kd.R_drewN | apply Kd.R_drew)); exact HO_9.out⟩, ⟨by repeat (first | (with_reducible first | exact HB.out | apply bwA | apply pwN | apply bw1) | exact HB.out)⟩⟩
                    ·replace c26 := Bool.eq_false_iff.mpr c26
                     subst c26
                     rw [if_neg (show ¬ (false = true) by decide)] at H
                     have H1 := H
                     clear H
                     have H := H1
                     clear H1
                     have H' := Aside0.mk H
                     clear H
                     have p204 : 0 ≤ (x10_2 : Int) := of_decide_eq_true (by first | (with_reducible assumption) | assumption)
                     have q204 : x10_2 < (l1.length : Int) := of_decide_eq_true (by first | (with_reducible assumption) | assumption)
                     obtain ⟨ad204, A204_0, c204_0, e204, hx204_0, hl204_0, hi204_0⟩ := at_L11 HR1.out x10_2 p204 q204
                     cases e204
                     replace hx204_0 := (HB.out.cell (World.block_lt_of_cell? w _ hx204_0)).trans hx204_0
                     have HR204_0 := Aside0.mk hi204_0
                     have HC204_0 := Aside0.mk hl204_0
                     clear hi204_0 hl204_0
                     replace p204 := eq_true p204
                     replace q204 := eq_true q204
                     have p205 : 0 ≤ (x11_4 : Int) := of_decide_eq_true (by first | (with_reducible assumption) | assumption)
                     have q205 : x11_4 < ((rd_L11 l1 x10_2).length : Int) := of_decide_eq_true (by first | (with_reducible assumption) | assumption)
                     obtain ⟨ad205, e205, hx205_0⟩ := Kd.at_bool HR204_0.out x11_4 p205 q205
                     (try rw [← Nbq25.out] at hx205_0)
                     cases e205
                     replace hx205_0 := (HB.out.cell (World.block_lt_of_cell? w _ hx205_0)).trans hx205_0
                     replace p205 := eq_true p205
                     replace q205 := eq_true q205
                     go_wp2
                     (try simp only [← hl9_4])
                     go_roundg k4
                     case measure => have := HK1.out; have := HK2.out; have := HJ11.out; have := HK4.out; omega
                     case rel => exact ⟨(x9_4), (wrap64 (x11_4 + 1)), (by first | rfl | (simp; done) | (simp [*]; done)), H', ⟨by have := HK1.out; have := HK2.out; have := HJ11.out; have := HK4.out; omega⟩, ⟨by (try simp only [hl9_4]); (with_reducible repeat (first | apply Kd.S_alloc | apply Kd.S_drewN | apply Kd.S_drew)); exact HO_7.out⟩, ⟨by (try simp only [hl9_4]); (with_reducible repeat (first | apply Kd.R_alloc | apply Kd.R_drewN | apply Kd.R_drew)); exact HO_9.out⟩, ⟨by repeat (first | (with_reducible first | exact HB.out | apply bwA | apply pwN | apply bw1) | exact HB.out)⟩⟩
                   ·rw [if_neg c24] at H
                    exact absurd H (by simp)
                  ·rw [if_neg c23] at H
                   exact absurd H (by simp)
                 ·rw [if_neg c22] at H
                  exact absurd H (by simp)
                ·rw [if_neg c21] at H
                 exact absurd H (by simp)
               ·rw [if_neg c20] at H
                have c20b0 : decide (x11_4 < (l0.length : Int)) = false := decide_eq_false c20
                clear c20
                have H' := Aside0.mk H
                clear H
                go_wp2
                (try simp only [← hl9_4])
                go_roundg k4
                case measure => have := HK1.out; have := HK2.out; have := HJ11.out; have := HK4.out; omega
                case rel => exact ⟨(x9_4), (wrap64 (x10_2 + 1)), (by first | rfl | (simp; done) | (simp [*]; done)), H', ⟨by have := HK1.out; have := HK2.out; have := HJ11.out; have := HK4.out; omega⟩, ⟨by (try simp only [hl9_4]); (with_reducible repeat (first | apply Kd.S_alloc | apply Kd.S_drewN | apply Kd.S_drew)); exact HO_7.out⟩, ⟨by (try simp only [hl9_4]); (with_reducible repeat (first | apply Kd.R_alloc | apply Kd.R_drewN | apply Kd.R_drew)); exact HO_9.out⟩, ⟨by repeat (first | (with_reducible first | exact HB.out | apply bwA | apply pwN | apply bw1) | exact HB.out)⟩⟩
            ·rw [if_neg c16] at H
             exact absurd H (by simp)
           ·rw [if_neg c15] at H
            exact absurd H (by simp)
          ·replace c14 := Bool.eq_false_iff.mpr c14
           subst c14
           rw [if_neg (show ¬ (false = true) by decide)] at H
           have H1 := H
           clear H
           have H := H1
           clear H1
           by_cases c38 : x7_1.length < 5864062014805
           ·rw [if_pos c38] at H
            have LMc38 := Aside0.mk c38
            clear c38
            obtain ⟨y200, hy200⟩ : ∃ y_ : List (List Int), y_ = (x7_1 ++ [x9_2]) := ⟨_, rfl⟩
            replace H : (spec_l03Lens.l0 kj11 l0 l1 a2 y200 (wrap64 (x8_1 + 1))) = some r := by first | (rw [hy200]; with_reducible exact H) | (have H2_ := (Option.bind_some _ _).symm.trans H; rw [hy200]; with_reducible exact H2_) | (have H2_ := (Option.bind_some _ _).symm.trans H; with_reducible exact H2_) | with_reducible exact H | (rw [hy200]; exact H) | exact H
            have Ny200 := Aside0.mk hy200
            clear hy200
            have H' := Aside0.mk H
            clear H
            obtain ⟨Ao40, co40, eo40⟩ := Kd.R_slice HO_9.out
            subst eo40
            go_wp2_with (first | ((with_reducible refine gate_builtin (b := .append) (xs := #[.tmp 85, .tmp 87]) rfl ?_); at_builtin; refine Kd.S_append (Kd.slice 2 (Kd.int .i64)) (w0 := w) w.heap.size rfl (.tmp 85) (.tmp 87) 62 64 (.slice none 0 0) 24 rfl Try.underlying62 info64 rfl (by decide) (by omega) u7 x7_1 x9_2 [.slice Ao40 x9_2.length co40] (fun _ => True) (fun k_ => some k_ = (.slice Ao40 x9_2.length co40 : Value).ownBlock) rfl rfl ?aP (fun k_ hk_ => ((Kd.R_mono (ok' := fun k_ => ((fun _ => True)) k_ ∧ some k_ ≠ (u7 : Value).ownBlock) (Kd.R_apart' (HO_9.out) (Kd.S_typed HO_7.out) (by decide)) (fun k_ hk => ⟨trivial, hk.2⟩))).1 k_ hk_.symm) ?aF ?aO ?aB ?aS ?aL ?_; (case aP => exact Kd.M_row (Kd.R_mono (Kd.R_tight rfl (Kd.R_mono (ok' := fun k_ => ((fun _ => True)) k_ ∧ some k_ ≠ (u7 : Value).ownBlock) (Kd.R_apart' (HO_9.out) (Kd.S_typed HO_7.out) (by decide)) (fun k_ hk => ⟨trivial, hk.2⟩))) (fun _ h_ => h_))); (case aB => exact (by repeat (first | (with_reducible first | exact HB.out | apply bwA | apply pwN | apply bw1) | exact HB.out))); (case aF => exact (fun _ _ => trivial)); (case aO => exact (by (with_reducible repeat (first | apply Kd.S_alloc | apply Kd.S_drewN | apply Kd.S_drew)); exact Kd.S_mono HO_7.out (fun k_ hk => ⟨trivial, fun e_ => hk e_⟩))); (case aS => exact (below_size (by repeat (first | (with_reducible first | exact HB.out | apply bwA | apply pwN | apply bw1) | exact HB.out)))); (case aL => have := LMc38.out; omega); intro v201 w39 ho hb hg hat; rw [← Ny200.out] at ho; have n0_ := Aside0.mk (hb); have n1_ := Aside0.mk (ho); clear HB; clear HO_7; clear HO_9; have HB := n0_; have HO202 := n1_; clear n0_ n1_; clear ho hb hg hat))
            go_roundg kj11
            case measure => have := HK1.out; have := HK2.out; have := HJ11.out; omega
            case rel => exact ⟨(y200), (wrap64 (x8_1 + 1)), (by first | rfl | (simp; done) | (simp [*]; done)), H', ⟨by have := HK1.out; have := HK2.out; have := HJ11.out; omega⟩, ⟨by (with_reducible repeat (first | apply Kd.S_alloc | apply Kd.S_drewN | apply Kd.S_drew)); exact HO202.out⟩, ⟨by repeat (first | (with_reducible first | exact HB.out | apply bwA | apply pwN | apply bw1) | exact HB.out)⟩⟩
           ·rw [if_neg c38] at H
            exact absurd H (by simp)
     ·rw [if_neg c9] at H
      exact absurd H (by simp)
    ·rw [if_neg c8] at H
     exact absurd H (by simp)
   ·rw [if_neg c6] at H
    have c6b0 : decide (x8_1 ≤ a2) = false := decide_eq_false c6
    clear c6
    obtain rfl := Option.some.inj H
    go_wp2
    go_ret
    exact ⟨_, by first | rfl | (simp [errW_none, errW_some] <;> rfl) | (simp [*, errW_none, errW_some] <;> rfl), by (with_reducible repeat (first | apply Kd.S_alloc | apply Kd.S_drewN | apply Kd.S_drew)); exact HO_7.out, by repeat (first | (with_reducible first | exact HB.out | apply bwA | apply pwN | apply bw1) | exact HB.out)⟩
end Go.Proofs.Ytlepbhlbooajmaa.Q
