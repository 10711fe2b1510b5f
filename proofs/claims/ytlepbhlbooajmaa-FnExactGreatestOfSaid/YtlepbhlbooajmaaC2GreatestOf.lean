/- Contracts and plain laws of functions of the given program; no conditions beside those in the theorems. -/
import Derived.Test.YtlepbhlbooajmaaC1GreatestOf
import Derived.Test.YtlepbhlbooajmaaWTab
import Derived.Test.YtlepbhlbooajmaaC0GreatestOf
namespace Go.Proofs.Ytlepbhlbooajmaa.Ext
end Go.Proofs.Ytlepbhlbooajmaa.Ext
namespace Go.Proofs.Ytlepbhlbooajmaa.Q
open Go.Proofs.Ytlepbhlbooajmaa.Ext
open Go.RowKit Go.Proofs.YtlepbhlbooajmaaW.PrintWords Go.Proofs.YtlepbhlbooajmaaW.PrintLast Go.Proofs.YtlepbhlbooajmaaW.PrintMore
attribute [local go_sem] max2_int min2_int max_two min_two max_three min_three max_four min_four
set_option linter.unusedVariables false
set_option linter.unusedSimpArgs false
def cmp_Or_int.l0 : Nat → Int → List Int → Int → Int → Option (Int)
 | 0, _, _, _, _ => none
 | k + 1, x3, x6, x7, x8 => if x8 < x7 then (if 0 ≤ x8 then (if x8 < (x6.length : Int) then (if (rd x6 x8) = x3 then (cmp_Or_int.l0 k x3 x6 x7 (wrap64 (x8 + 1))) else (some (rd x6 x8))) else (none)) else (none)) else (some x3)
def cmp_Or_int.f (k : Nat) (l0 : List Int) : Option (Int) := cmp_Or_int.l0 k 0 l0 (l0.length : Int) 0
set_option maxHeartbeats 8000000 in
set_option maxRecDepth 100000 in
theorem cmp_Or_int.calls (k : Nat) (A0 : Option Addr) (c0 : Nat) (l0 : List Int) (r : Int) (w : World) (hr0 : Kd.C (Kd.int .i64) w A0 l0.length l0) (hc0 : l0.length ≤ c0) (h : cmp_Or_int.f k l0 = some r) :
  Calls Try.prog 78 #[.slice A0 l0.length c0] w fun e w' => e = .returned (.int .i64 r) ∧ Drawn0 w w' := by
 have HR0 := Aside0.mk hr0
 have HC0 := Aside0.mk hc0
 clear hr0 hc0
 have H : (cmp_Or_int.l0 k 0 l0 (l0.length : Int) 0) = some r := h
 clear h
 have H' := Aside0.mk H
 clear H
 go_enter Try.func78, Try.ntmps78
 go_wp2
 go_loopg [8] k (fun kq v8 w' => ∃ (x8_1 : Int), v8 = .int .i64 x8_1 ∧ Aside0 (cmp_Or_int.l0 kq 0 l0 (l0.length : Int) x8_1 = some r) ∧ Aside0 (kq ≤ k) ∧ Drawn0 w w')
 case atStart => exact ⟨(0), (by first | rfl | (simp; done) | (simp [*]; done)), H', ⟨Nat.le_refl _⟩, by repeat (first | exact Drawn0.refl _ | apply Drawn0.step)⟩
 case round =>
  clear H'
  obtain ⟨x8_1, rfl, HA, HK1, ⟨m1, rfl⟩⟩ := hrel
  cases gk with
  | zero => exact absurd HA.out (by simp [cmp_Or_int.l0])
  | succ k1 =>
   have H := HA.out
   clear HA
   simp only [cmp_Or_int.l0] at H
   by_cases c2 : x8_1 < (l0.length : Int)
   ·rw [if_pos c2] at H
    have c2b0 : decide (x8_1 < (l0.length : Int)) = true := decide_eq_true c2
    clear c2
    by_cases c3 : 0 ≤ x8_1
    ·rw [if_pos c3] at H
     have c3b0 : decide (0 ≤ x8_1) = true := decide_eq_true c3
     clear c3
     by_cases c4 : x8_1 < (l0.length : Int)
     ·rw [if_pos c4] at H
      have c4b0 : decide (x8_1 < (l0.length : Int)) = true := decide_eq_true c4
      clear c4
      by_cases c5 : (rd l0 x8_1) = 0
      ·rw [if_pos c5] at H
       have c5b0 : ((rd l0 x8_1) == 0) = true := beq_iff_eq.mpr c5
       have c5b1 : ((rd l0 x8_1) != 0) = false := bne_eq_false_iff_eq.mpr c5
       clear c5
       have H' := Aside0.mk H
       clear H
       have p244 : 0 ≤ (x8_1 : Int) := of_decide_eq_true (by first | (with_reducible assumption) | assumption)
       have q244 : x8_1 < (l0.length : Int) := of_decide_eq_true (by first | (with_reducible assumption) | assumption)
       obtain ⟨ad244, e244, hx244_0⟩ := Kd.at_int HR0.out x8_1 p244 q244
       cases e244
       replace p244 := eq_true p244
       replace q244 := eq_true q244
       go_wp2
       go_roundg k1
       case measure => have := HK1.out; omega
       case rel => exact ⟨(wrap64 (x8_1 + 1)), (by first | rfl | (simp; done) | (simp [*]; done)), H', ⟨by have := HK1.out; omega⟩, by repeat (first | exact Drawn0.refl _ | apply Drawn0.step)⟩
      ·rw [if_neg c5] at H
       have c5b0 : ((rd l0 x8_1) == 0) = false := beq_eq_false_iff_ne.mpr c5
       have c5b1 : ((rd l0 x8_1) != 0) = true := bne_iff_ne.mpr c5
       obtain rfl := Option.some.inj H
       have p244 : 0 ≤ (x8_1 : Int) := of_decide_eq_true (by first | (with_reducible assumption) | assumption)
       have q244 : x8_1 < (l0.length : Int) := of_decide_eq_true (by first | (with_reducible assumption) | assumption)
       obtain ⟨ad244, e244, hx244_0⟩ := Kd.at_int HR0.out x8_1 p244 q244
       cases e244
       replace p244 := eq_true p244
       replace q244 := eq_true q244
       go_wp2
       go_ret
       exact ⟨by first | rfl | (simp; done) | (simp [*]; done), by repeat (first | exact Drawn0.refl _ | apply Drawn0.step)⟩
     ·rw [if_neg c4] at H
      exact absurd H (by simp)
    ·rw [if_neg c3] at H
     exact absurd H (by simp)
   ·rw [if_neg c2] at H
    have c2b0 : decide (x8_1 < (l0.length : Int)) = false := decide_eq_false c2
    clear c2
    obtain rfl := Option.some.inj H
    go_wp2
    go_ret
    exact ⟨by first | rfl | (simp; done) | (simp [*]; done), by repeat (first | exact Drawn0.refl _ | apply Drawn0.step)⟩
def cmp_isNaN_uint8.f (a0 : Int) : Option (Bool) := some (a0 != a0)
set_option maxHeartbeats 8000000 in
set_option maxRecDepth 100000 in
theorem cmp_isNaN_uint8.calls (a0 : Int) (r : Bool) (w : World) (h : cmp_isNaN_uint8.f a0 = some r) :
  Calls Try.prog 85 #[.int .u8 a0] w fun e w' => e = .returned (.bool r) ∧ Drawn0 w w' := by
 have H : (some (a0 != a0)) = some r := h
 clear h
 obtain rfl := Option.some.inj H
 go_enter Try.func85, Try.ntmps85
 go_wp2
 go_ret
 exact ⟨by first | rfl | (simp; done) | (simp [*]; done), by repeat (first | exact Drawn0.refl _ | apply Drawn0.step)⟩
def cmp_Compare_uint8.f (a0 : Int) (a1 : Int) : Option (Int) := (cmp_isNaN_uint8.f a0).bind fun t245 => ((cmp_isNaN_uint8.f a1).bind fun t246 => (if t245 = true then (if t246 = true then (some 0) else (some (-1))) else (if t246 = true then (some 1) else (if a0 < a1 then (some (-1)) else (if a0 > a1 then (some 1) else (some 0))))))
set_option maxHeartbeats 8000000 in
set_option maxRecDepth 100000 in
theorem cmp_Compare_uint8.calls (a0 a1 r : Int) (w : World) (h : cmp_Compare_uint8.f a0 a1 = some r) :
  Calls Try.prog 79 #[.int .u8 a0, .int .u8 a1] w fun e w' => e = .returned (.int .i64 r) ∧ Drawn0 w w' := by
 have H : ((cmp_isNaN_uint8.f a0).bind fun t245 => ((cmp_isNaN_uint8.f a1).bind fun t246 => (if t245 = true then (if t246 = true then (some 0) else (some (-1))) else (if t246 = true then (some 1) else (if a0 < a1 then (some (-1)) else (if a0 > a1 then (some 1) else (some 0))))))) = some r := h
 clear h
 replace H := Option.bind_eq_some_iff.mp H
 obtain ⟨t245, A30, H⟩ := H
 (try dsimp only at H)
 have A3 := Aside0.mk A30
 clear A30
 replace H := Option.bind_eq_some_iff.mp H
 obtain ⟨t246, A40, H⟩ := H
 (try dsimp only at H)
 have A4 := Aside0.mk A40
 clear A40
 by_cases c5 : t245 = true
 ·subst c5
  rw [if_pos rfl] at H
  have H1 := H
  clear H
  have H := H1
  clear H1
  by_cases c6 : t246 = true
  ·subst c6
   rw [if_pos rfl] at H
   have H1 := H
   clear H
   have H := H1
   clear H1
   obtain rfl := Option.some.inj H
   go_enter Try.func79, Try.ntmps79
   go_wp2_with (first | ((with_reducible refine gate_callee (f := 85) rfl ?_); refine goesL_ (some 8) rfl rfl Try.func85 (by kernel_rfl) rfl #[.int .u8 a0] rfl (by (try simp only [List.map_toArray, List.map_cons, List.map_nil]); first | done | rfl | (simp only [List.length_drop, List.length_take]; rfl)) ?_; (with_reducible refine (cmp_isNaN_uint8.calls a0 true _ A3.out).mono ?_); rintro e w' ⟨rfl, ⟨nd, rfl⟩⟩; refine ⟨_, rfl, ?_⟩) | ((with_reducible refine gate_callee (f := 85) rfl ?_); refine goesL_ (some 10) rfl rfl Try.func85 (by kernel_rfl) rfl #[.int .u8 a1] rfl (by (try simp only [List.map_toArray, List.map_cons, List.map_nil]); first | done | rfl | (simp only [List.length_drop, List.length_take]; rfl)) ?_; (with_reducible refine (cmp_isNaN_uint8.calls a1 true _ A4.out).mono ?_); rintro e w' ⟨rfl, ⟨nd, rfl⟩⟩; refine ⟨_, rfl, ?_⟩))
   go_ret
   exact ⟨by first | rfl | (simp; done) | (simp [*]; done), by repeat (first | exact Drawn0.refl _ | apply Drawn0.step)⟩
  ·replace c6 := Bool.eq_false_iff.mpr c6
   subst c6
   rw [if_neg (show ¬ (false = true) by decide)] at H
   have H1 := H
   clear H
   have H := H1
   clear H1
   obtain rfl := Option.some.inj H
   go_enter Try.func79, Try.ntmps79
   go_wp2_with (first | ((with_reducible refine gate_callee (f := 85) rfl ?_); refine goesL_ (some 8) rfl rfl Try.func85 (by kernel_rfl) rfl #[.int .u8 a0] rfl (by (try simp only [List.map_toArray, List.map_cons, List.map_nil]); first | done | rfl | (simp only [List.length_drop, List.length_take]; rfl)) ?_; (with_reducible refine (cmp_isNaN_uint8.calls a0 true _ A3.out).mono ?_); rintro e w' ⟨rfl, ⟨nd, rfl⟩⟩; refine ⟨_, rfl, ?_⟩) | ((with_reducible refine gate_callee (f := 85) rfl ?_); refine goesL_ (some 10) rfl rfl Try.func85 (by kernel_rfl) rfl #[.int .u8 a1] rfl (by (try simp only [List.map_toArray, List.map_cons, List.map_nil]); first | done | rfl | (simp only [List.length_drop, List.length_take]; rfl)) ?_; (with_reducible refine (cmp_isNaN_uint8.calls a1 false _ A4.out).mono ?_); rintro e w' ⟨rfl, ⟨nd, rfl⟩⟩; refine ⟨_, rfl, ?_⟩))
   go_ret
   exact ⟨by first | rfl | (simp; done) | (simp [*]; done), by repeat (first | exact Drawn0.refl _ | apply Drawn0.step)⟩
 ·replace c5 := Bool.eq_false_iff.mpr c5
  subst c5
  rw [if_neg (show ¬ (false = true) by decide)] at H
  have H1 := H
  clear H
  have H := H1
  clear H1
  by_cases c7 : t246 = true
  ·subst c7
   rw [if_pos rfl] at H
   have H1 := H
   clear H
   have H := H1
   clear H1
   obtain rfl := Option.some.inj H
   go_enter Try.func79, Try.ntmps79
   go_wp2_with (first | ((with_reducible refine gate_callee (f := 85) rfl ?_); refine goesL_ (some 8) rfl rfl Try.func85 (by kernel_rfl) rfl #[.int .u8 a0] rfl (by (try simp only [List.map_toArray, List.map_cons, List.map_nil]); first | done | rfl | (simp only [List.length_drop, List.length_take]; rfl)) ?_; (with_reducible refine (cmp_isNaN_uint8.calls a0 false _ A3.out).mono ?_); rintro e w' ⟨rfl, ⟨nd, rfl⟩⟩; refine ⟨_, rfl, ?_⟩) | ((with_reducible refine gate_callee (f := 85) rfl ?_); refine goesL_ (some 10) rfl rfl Try.func85 (by kernel_rfl) rfl #[.int .u8 a1] rfl (by (try simp only [List.map_toArray, List.map_cons, List.map_nil]); first | done | rfl | (simp only [List.length_drop, List.length_take]; rfl)) ?_; (with_reducible refine (cmp_isNaN_uint8.calls a1 true _ A4.out).mono ?_); rintro e w' ⟨rfl, ⟨nd, rfl⟩⟩; refine ⟨_, rfl, ?_⟩))
   go_ret
   exact ⟨by first | rfl | (simp; done) | (simp [*]; done), by repeat (first | exact Drawn0.refl _ | apply Drawn0.step)⟩
  ·replace c7 := Bool.eq_false_iff.mpr c7
   subst c7
   rw [if_neg (show ¬ (false = true) by decide)] at H
   have H1 := H
   clear H
   have H := H1
   clear H1
   by_cases c8 : a0 < a1
   ·rw [if_pos c8] at H
    have c8b0 : decide (a0 < a1) = true := decide_eq_true c8
    clear c8
    obtain rfl := Option.some.inj H
    go_enter Try.func79, Try.ntmps79
    go_wp2_with (first | ((with_reducible refine gate_callee (f := 85) rfl ?_); refine goesL_ (some 8) rfl rfl Try.func85 (by kernel_rfl) rfl #[.int .u8 a0] rfl (by (try simp only [List.map_toArray, List.map_cons, List.map_nil]); first | done | rfl | (simp only [List.length_drop, List.length_take]; rfl)) ?_; (with_reducible refine (cmp_isNaN_uint8.calls a0 false _ A3.out).mono ?_); rintro e w' ⟨rfl, ⟨nd, rfl⟩⟩; refine ⟨_, rfl, ?_⟩) | ((with_reducible refine gate_callee (f := 85) rfl ?_); refine goesL_ (some 10) rfl rfl Try.func85 (by kernel_rfl) rfl #[.int .u8 a1] rfl (by (try simp only [List.map_toArray, List.map_cons, List.map_nil]); first | done | rfl | (simp only [List.length_drop, List.length_take]; rfl)) ?_; (with_reducible refine (cmp_isNaN_uint8.calls a1 false _ A4.out).mono ?_); rintro e w' ⟨rfl, ⟨nd, rfl⟩⟩; refine ⟨_, rfl, ?_⟩))
    go_ret
    exact ⟨by first | rfl | (simp; done) | (simp [*]; done), by repeat (first | exact Drawn0.refl _ | apply Drawn0.step)⟩
   ·rw [if_neg c8] at H
    have c8b0 : decide (a0 < a1) = false := decide_eq_false c8
    clear c8
    by_cases c9 : a0 > a1
    ·rw [if_pos c9] at H
     have c9b0 : decide (a1 < a0) = true := decide_eq_true c9
     clear c9
     obtain rfl := Option.some.inj H
     go_enter Try.func79, Try.ntmps79
     go_wp2_with (first | ((with_reducible refine gate_callee (f := 85) rfl ?_); refine goesL_ (some 8) rfl rfl Try.func85 (by kernel_rfl) rfl #[.int .u8 a0] rfl (by (try simp only [List.map_toArray, List.map_cons, List.map_nil]); first | done | rfl | (simp only [List.length_drop, List.length_take]; rfl)) ?_; (with_reducible refine (cmp_isNaN_uint8.calls a0 false _ A3.out).mono ?_); rintro e w' ⟨rfl, ⟨nd, rfl⟩⟩; refine ⟨_, rfl, ?_⟩) | ((with_reducible refine gate_callee (f := 85) rfl ?_); refine goesL_ (some 10) rfl rfl Try.func85 (by kernel_rfl) rfl #[.int .u8 a1] rfl (by (try simp only [List.map_toArray, List.map_cons, List.map_nil]); first | done | rfl | (simp only [List.length_drop, List.length_take]; rfl)) ?_; (with_reducible refine (cmp_isNaN_uint8.calls a1 false _ A4.out).mono ?_); rintro e w' ⟨rfl, ⟨nd, rfl⟩⟩; refine ⟨_, rfl, ?_⟩))
     go_ret
     exact ⟨by first | rfl | (simp; done) | (simp [*]; done), by repeat (first | exact Drawn0.refl _ | apply Drawn0.step)⟩
    ·rw [if_neg c9] at H
     have c9b0 : decide (a1 < a0) = false := decide_eq_false c9
     clear c9
     obtain rfl := Option.some.inj H
     go_enter Try.func79, Try.ntmps79
     go_wp2_with (first | ((with_reducible refine gate_callee (f := 85) rfl ?_); refine goesL_ (some 8) rfl rfl Try.func85 (by kernel_rfl) rfl #[.int .u8 a0] rfl (by (try simp only [List.map_toArray, List.map_cons, List.map_nil]); first | done | rfl | (simp only [List.length_drop, List.length_take]; rfl)) ?_; (with_reducible refine (cmp_isNaN_uint8.calls a0 false _ A3.out).mono ?_); rintro e w' ⟨rfl, ⟨nd, rfl⟩⟩; refine ⟨_, rfl, ?_⟩) | ((with_reducible refine gate_callee (f := 85) rfl ?_); refine goesL_ (some 10) rfl rfl Try.func85 (by kernel_rfl) rfl #[.int .u8 a1] rfl (by (try simp only [List.map_toArray, List.map_cons, List.map_nil]); first | done | rfl | (simp only [List.length_drop, List.length_take]; rfl)) ?_; (with_reducible refine (cmp_isNaN_uint8.calls a1 false _ A4.out).mono ?_); rintro e w' ⟨rfl, ⟨nd, rfl⟩⟩; refine ⟨_, rfl, ?_⟩))
     go_ret
     exact ⟨by first | rfl | (simp; done) | (simp [*]; done), by repeat (first | exact Drawn0.refl _ | apply Drawn0.step)⟩
def impl_comparePair.f (k : Nat) (F0 F1 J0 J1 : Int) : Option (Int) := if 0 < 2 then ((cmp_Compare_uint8.f (rd [F0, F1] 0) (rd [J0, J1] 0)).bind fun t249 => (if 1 < 2 then ((cmp_Compare_uint8.f (rd [F0, F1] 1) (rd [J0, J1] 1)).bind fun t250 => ((cmp_Or_int.f k (([t249, t250] : List Int))).bind fun t254 => (some t254))) else (none))) else (none)
def impl_comparePair.T1 : Bool × List (List Nat × List Nat) := (true, [([], []), ([0], [0]), ([], []), ([2], [2]), ([1, 3], [1, 3]), ([], []), ([5], [5]), ([], []), ([7], [7]), ([6, 8, 4], [6, 8]), ([4, 9], [4, 9]), ([10, 9], [10]), ([11, 11, 0, 1, 2, 3, 4, 5, 6, 7, 8, 9, 10, 11], [11])])
def impl_comparePair.B1 : List Nat := [0, 1, 0, 4, 15, 0, 32, 0, 128, 511, 1023, 2047, 4095]
theorem impl_comparePair.tab1 : rtab .any (opsOf Try.f64 1) = impl_comparePair.T1 := by kernel_rfl
theorem impl_comparePair.bits1 : waitsOk impl_comparePair.T1.2 impl_comparePair.B1 = true := by kernel_rfl
set_option maxHeartbeats 8000000 in
set_option maxRecDepth 100000 in
theorem impl_comparePair.calls (k : Nat) (F0 F1 J0 J1 r : Int) (w : World) (h : impl_comparePair.f k F0 F1 J0 J1 = some r) :
  Calls Try.prog 64 #[.agg #[.int .u8 F0, .int .u8 F1], .agg #[.int .u8 J0, .int .u8 J1]] w fun e w' => e = .returned (.int .i64 r) ∧ Below w.heap.size w w' := by
 have hu104 := Try.underlying104
 have HB := Aside0.mk (Below.refl w.heap.size w)
 have H : (if 0 < 2 then ((cmp_Compare_uint8.f (rd [F0, F1] 0) (rd [J0, J1] 0)).bind fun t249 => (if 1 < 2 then ((cmp_Compare_uint8.f (rd [F0, F1] 1) (rd [J0, J1] 1)).bind fun t250 => ((cmp_Or_int.f k (([t249, t250] : List Int))).bind fun t254 => (some t254))) else (none))) else (none)) = some r := h
 clear h
 by_cases c3 : 0 < 2
 ·rw [if_pos c3] at H
  have c3b0 : decide (0 < 2) = true := decide_eq_true c3
  clear c3
  replace H := Option.bind_eq_some_iff.mp H
  obtain ⟨t249, A40, H⟩ := H
  (try dsimp only at H)
  have A4 := Aside0.mk A40
  clear A40
  by_cases c5 : 1 < 2
  ·rw [if_pos c5] at H
   have c5b0 : decide (1 < 2) = true := decide_eq_true c5
   clear c5
   replace H := Option.bind_eq_some_iff.mp H
   obtain ⟨t250, A60, H⟩ := H
   (try dsimp only at H)
   have A6 := Aside0.mk A60
   clear A60
   obtain ⟨y251, hy251⟩ : ∃ y_ : List Int, y_ = (([t249, t250] : List Int)) := ⟨_, rfl⟩
   replace H : ((cmp_Or_int.f k y251).bind fun t254 => (some t254)) = some r := by first | (rw [hy251]; with_reducible exact H) | (have H2_ := (Option.bind_some _ _).symm.trans H; rw [hy251]; with_reducible exact H2_) | (have H2_ := (Option.bind_some _ _).symm.trans H; with_reducible exact H2_) | with_reducible exact H | (rw [hy251]; exact H) | exact H
   have Ny251 := Aside0.mk hy251
   clear hy251
   replace H := Option.bind_eq_some_iff.mp H
   obtain ⟨t254, A70, H⟩ := H
   replace H : (some t254) = some r := H
   have A7 := Aside0.mk A70
   clear A70
   obtain rfl := Option.some.inj H
   go_enter Try.func64, Try.ntmps64
   try go_wp2_with (first | ((with_reducible refine gate_dst (N := 2) rfl ?_); refine box_event ?hg (N := 2) ?hd (cs := #[.int .u8 F0, .int .u8 F1]) (t := 104) ?hr ?_; (case hd => rfl); (case hg => rfl); (case hr => first | (go_simp; done) | (go_simp; rfl)); intro gb247 hg w8 hbox hb; have n0_ := Aside0.mk (below_step (by repeat (first | (with_reducible first | exact HB.out | apply bwA | apply pwN | apply bw1) | exact HB.out)) hb); have n1_ := Aside0.mk (hbox); have n2_ := Aside0.mk ((by rw [hg]; exact (below_size (by repeat (first | (with_reducible first | exact HB.out | apply bwA | apply pwN | apply bw1) | exact HB.out))) : w.heap.size ≤ gb247)); have n3_ := Aside0.mk (n2_.out); clear HB; have HB := n0_; have BK247 := n1_; have GW247 := n2_; have GE247 := n3_; clear n0_ n1_ n2_ n3_; clear hb hbox hg) | ((with_reducible refine gate_dst (N := 3) rfl ?_); refine box_event ?hg (N := 3) ?hd (cs := #[.int .u8 J0, .int .u8 J1]) (t := 104) ?hr ?_; (case hd => rfl); (case hg => rfl); (case hr => first | (go_simp; done) | (go_simp; rfl)); intro gb248 hg w9 hbox hb; have n0_ := Aside0.mk (blk_below (g := gb247) (by (with_reducible repeat (first | refine blk_drewN ?_ _ | refine blk_drew ?_ | refine blk_alloc ?_ _)); exact BK247.out) hb); have n1_ := Aside0.mk (below_step (by repeat (first | (with_reducible first | exact HB.out | apply bwA | apply pwN | apply bw1 | refine below_set ?_ GE247.out) | exact HB.out)) hb); have n2_ := Aside0.mk (hbox); have n3_ := Aside0.mk ((by rw [hg]; exact (below_size (by repeat (first | (with_reducible first | exact HB.out | apply bwA | apply pwN | apply bw1 | refine below_set ?_ GE247.out) | exact HB.out))) : w.heap.size ≤ gb248)); have n4_ := Aside0.mk (n3_.out); have n5_ := Aside0.mk ((by rw [hg]; exact Nat.ne_of_lt (blk_lt (g := gb247) (by (with_reducible repeat (first | refine blk_drewN ?_ _ | refine blk_drew ?_ | refine blk_alloc ?_ _)); exact BK247.out)) : gb247 ≠ gb248)); have n6_ := Aside0.mk ((Ne.symm n5_.out)); clear BK247; clear HB; have BK247 := n0_; have HB := n1_; have BK248 := n2_; have GW248 := n3_; have GE248 := n4_; have NB247_248 := n5_; have NB248_247 := n6_; clear n0_ n1_ n2_ n3_ n4_ n5_ n6_; clear hb hbox hg))
   have n0_ := Aside0.mk (blk_drew BK247.out)
   have n1_ := Aside0.mk (blk_drew BK248.out)
   have n2_ := Aside0.mk (bw1 HB.out)
   clear BK247
   clear BK248
   clear HB
   have BK247 := n0_
   have BK248 := n1_
   have HB := n2_
   clear n0_ n1_ n2_
   have hpx11 : 0 ≤ (0 : Int) := (by first | omega | exact of_decide_eq_true (by first | (with_reducible assumption) | assumption))
   have hqx11 : (0 : Int) < (2 : Int) := (by first | omega | exact of_decide_eq_true (by first | (with_reducible assumption) | assumption))
   have hpx12 : 0 ≤ (0 : Int) := (by first | omega | exact of_decide_eq_true (by first | (with_reducible assumption) | assumption))
   have hqx12 : (0 : Int) < (2 : Int) := (by first | omega | exact of_decide_eq_true (by first | (with_reducible assumption) | assumption))
   have hpx13 : 0 ≤ (1 : Int) := (by first | omega | exact of_decide_eq_true (by first | (with_reducible assumption) | assumption))
   have hqx13 : (1 : Int) < (2 : Int) := (by first | omega | exact of_decide_eq_true (by first | (with_reducible assumption) | assumption))
   have hpx14 : 0 ≤ (1 : Int) := (by first | omega | exact of_decide_eq_true (by first | (with_reducible assumption) | assumption))
   have hqx14 : (1 : Int) < (2 : Int) := (by first | omega | exact of_decide_eq_true (by first | (with_reducible assumption) | assumption))
   refine start_ (n := 13) (S := fun w' => w'.cell? ⟨gb247, 0, none⟩ = some (.int .u8 (rd [F0, F1] 0)) ∧ w'.cell? ⟨gb248, 0, none⟩ = some (.int .u8 (rd [J0, J1] 0)) ∧ w'.cell? ⟨gb247, 1, none⟩ = some (.int .u8 (rd [F0, F1] 1)) ∧ w'.cell? ⟨gb248, 1, none⟩ = some (.int .u8 (rd [J0, J1] 1))) (ds := []) #[false, false, false, false, false, false, false, false, false, false, false, false, false] (by kernel_rfl) rfl rfl ⟨((blk_cell BK247.out _).trans (arrx0_ .u8 [F0, F1] [] (0 : Int) hpx11 hqx11)), ((blk_cell BK248.out _).trans (arrx0_ .u8 [J0, J1] [] (0 : Int) hpx12 hqx12)), ((blk_cell BK247.out _).trans (arrx0_ .u8 [F0, F1] [] (1 : Int) hpx13 hqx13)), ((blk_cell BK248.out _).trans (arrx0_ .u8 [J0, J1] [] (1 : Int) hpx14 hqx14))⟩ (fun hHeld => ?_); refine with_tabW impl_comparePair.tab1 impl_comparePair.bits1 (fun HT_ HW_ => ?_)
   generalize w9.drew = w10 at BK247 BK248 HB hHeld ⊢
   refine pu_ 0 (some 5) HT_ ?_
   refine pu_ 2 (some 7) HT_ ?_
   refine pu_ 5 (some 10) HT_ ?_
   refine pu_ 7 (some 12) HT_ ?_
   refine tk_ 1 (some 6) HT_ HW_ hHeld rfl (by rintro w' ⟨s0, s1, s2, s3⟩; go_simp; with_reducible rfl) ?_
   refine tk_ 3 (some 8) HT_ HW_ hHeld rfl (by rintro w' ⟨s0, s1, s2, s3⟩; go_simp; with_reducible rfl) ?_
   refine tk_ 6 (some 11) HT_ HW_ hHeld rfl (by rintro w' ⟨s0, s1, s2, s3⟩; go_simp; with_reducible rfl) ?_
   refine tk_ 8 (some 13) HT_ HW_ hHeld rfl (by rintro w' ⟨s0, s1, s2, s3⟩; go_simp; with_reducible rfl) ?_
   refine on_ 4 (some 9) HT_ fun K hK => ?_
   refine goes_ Try.func79 (by kernel_rfl) rfl #[.int .u8 (rd [F0, F1] 0), .int .u8 (rd [J0, J1] 0)] (by rfl) rfl rfl (by (try simp only [List.map_toArray, List.map_cons, List.map_nil]); first | done | rfl | (simp only [List.length_drop, List.length_take]; rfl)) ?_
   with_reducible refine (cmp_Compare_uint8.calls (rd [F0, F1] 0) (rd [J0, J1] 0) t249 _ A4.out).mono ?_
   rintro e w' ⟨rfl, ⟨nd, rfl⟩⟩
   refine ⟨_, rfl, ?_⟩
   refine hK.out _ _ ⟨((blk_cell BK247.out _).trans (arrx0_ .u8 [F0, F1] [] (0 : Int) hpx11 hqx11)), ((blk_cell BK248.out _).trans (arrx0_ .u8 [J0, J1] [] (0 : Int) hpx12 hqx12)), ((blk_cell BK247.out _).trans (arrx0_ .u8 [F0, F1] [] (1 : Int) hpx13 hqx13)), ((blk_cell BK248.out _).trans (arrx0_ .u8 [J0, J1] [] (1 : Int) hpx14 hqx14))⟩ (fun hHeld => ?_)
   clear hK K
   refine nm_ (some 9) ?_
   refine on_ 9 (some 14) HT_ fun K hK => ?_
   refine goes_ Try.func79 (by kernel_rfl) rfl #[.int .u8 (rd [F0, F1] 1), .int .u8 (rd [J0, J1] 1)] (by rfl) rfl rfl (by (try simp only [List.map_toArray, List.map_cons, List.map_nil]); first | done | rfl | (simp only [List.length_drop, List.length_take]; rfl)) ?_
   with_reducible refine (cmp_Compare_uint8.calls (rd [F0, F1] 1) (rd [J0, J1] 1) t250 _ A6.out).mono ?_
   rintro e w' ⟨rfl, ⟨nd, rfl⟩⟩
   refine ⟨_, rfl, ?_⟩
   refine hK.out _ _ ⟨((blk_cell BK247.out _).trans (arrx0_ .u8 [F0, F1] [] (0 : Int) hpx11 hqx11)), ((blk_cell BK248.out _).trans (arrx0_ .u8 [J0, J1] [] (0 : Int) hpx12 hqx12)), ((blk_cell BK247.out _).trans (arrx0_ .u8 [F0, F1] [] (1 : Int) hpx13 hqx13)), ((blk_cell BK248.out _).trans (arrx0_ .u8 [J0, J1] [] (1 : Int) hpx14 hqx14))⟩ (fun hHeld => ?_)
   clear hK K
   refine nm_ (some 14) ?_
   refine on_ 10 (some 15) HT_ fun K hK => ?_
   refine Kd.R_lit_step (Kd.int .i64) _ 3 ?hg (N := 15) ?hd (xs := ([t249, t250] : List Int)) (inner := [.int .i64 t249, .int .i64 t250]) (ok := fun _ => True) (okp := fun _ => True) ?hr ?hp (fun _ hk => hk) trivial (Below.refl _ _) (Nat.le_refl _) (by simp) ?_; (case hd => rfl); (case hg => rfl); (case hr => first | (go_simp; done) | (go_simp; rfl)); (case hp => exact (Reps.one (show Kd.M (Kd.int .i64) _ _ _ t249 [.int .i64 t249] from rfl) (Reps.one (show Kd.M (Kd.int .i64) _ _ _ t250 [.int .i64 t250] from rfl) (Reps.none _ _))))
   intro v252 w15 ho16 hb hg_ hnew_
   clear hg_ hnew_
   (first | rw [← Ny251.out] at ho16 | (simp only [Int.reduceToNat] at ho16; rw [← Ny251.out] at ho16))
   have n0_ := Aside0.mk (Kd.R_lower ho16 (below_size (by repeat (first | (with_reducible first | exact HB.out | apply bwA | apply pwN | apply bw1 | refine below_set ?_ GE247.out | refine below_set ?_ GE248.out) | exact HB.out))))
   have n1_ := Aside0.mk (blk_below (g := gb247) (by (with_reducible repeat (first | refine blk_drewN ?_ _ | refine blk_drew ?_ | refine blk_alloc ?_ _)); exact BK247.out) hb)
   have n2_ := Aside0.mk (blk_below (g := gb248) (by (with_reducible repeat (first | refine blk_drewN ?_ _ | refine blk_drew ?_ | refine blk_alloc ?_ _)); exact BK248.out) hb)
   have n3_ := Aside0.mk (below_step (by repeat (first | (with_reducible first | exact HB.out | apply bwA | apply pwN | apply bw1 | refine below_set ?_ GE247.out | refine below_set ?_ GE248.out) | exact HB.out)) hb)
   clear BK247
   clear BK248
   clear HB
   have HO253 := n0_
   have BK247 := n1_
   have BK248 := n2_
   have HB := n3_
   clear n0_ n1_ n2_ n3_
   clear hb ho16
   obtain ⟨Ao17, co17, eo17⟩ := Kd.R_slice HO253.out
   (first | subst eo17 | (injection eo17 with f1_ f2_ f3_; have f4_ := f1_.symm; have f5_ := f3_.symm; clear f1_ f2_ f3_; subst f4_; subst f5_))
   refine hK.out _ _ ⟨((blk_cell BK247.out _).trans (arrx0_ .u8 [F0, F1] [] (0 : Int) hpx11 hqx11)), ((blk_cell BK248.out _).trans (arrx0_ .u8 [J0, J1] [] (0 : Int) hpx12 hqx12)), ((blk_cell BK247.out _).trans (arrx0_ .u8 [F0, F1] [] (1 : Int) hpx13 hqx13)), ((blk_cell BK248.out _).trans (arrx0_ .u8 [J0, J1] [] (1 : Int) hpx14 hqx14))⟩ (fun hHeld => ?_)
   clear hK K
   refine nm_ (some 15) ?_
   refine on_ 11 (some 16) HT_ fun K hK => ?_
   refine goes_ Try.func78 (by kernel_rfl) rfl #[.slice Ao17 y251.length co17] (by rfl) rfl rfl (by (try simp only [List.map_toArray, List.map_cons, List.map_nil]); first | done | rfl | (simp only [List.length_drop, List.length_take]; rfl)) ?_
   with_reducible refine (cmp_Or_int.calls k _ _ y251 t254 _ ?side1 ?side2 A7.out).mono ?_
   (case side1 => repeat (first | exact (Kd.R_reads' HO253.out).2.2 | (with_reducible refine Kd.C_alloc ?_ _) | (with_reducible refine Kd.C_drewN ?_ _) | (with_reducible refine Kd.C_drew ?_)))
   (case side2 => exact (Kd.R_reads' HO253.out).2.1)
   rintro e w' ⟨rfl, ⟨nd, rfl⟩⟩
   refine ⟨_, rfl, ?_⟩
   refine hK.out _ _ ⟨((blk_cell BK247.out _).trans (arrx0_ .u8 [F0, F1] [] (0 : Int) hpx11 hqx11)), ((blk_cell BK248.out _).trans (arrx0_ .u8 [J0, J1] [] (0 : Int) hpx12 hqx12)), ((blk_cell BK247.out _).trans (arrx0_ .u8 [F0, F1] [] (1 : Int) hpx13 hqx13)), ((blk_cell BK248.out _).trans (arrx0_ .u8 [J0, J1] [] (1 : Int) hpx14 hqx14))⟩ (fun hHeld => ?_)
   clear hK K
   refine nm_ (some 16) ?_
   refine pu_ 12 (some 4) HT_ ?_
   refine done_ (done_of HT_.out (by kernel_rfl)) ?_
   try go_wp2
   go_ret
   exact ⟨by first | rfl | (simp [errW_none, errW_some, i64_w]; done) | (simp [errW_none, errW_some] <;> rfl) | (simp [*, errW_none, errW_some] <;> rfl), by repeat (first | (with_reducible first | exact HB.out | apply bwA | apply pwN | apply bw1 | refine below_set ?_ GE247.out | refine below_set ?_ GE248.out) | exact HB.out)⟩
  ·rw [if_neg c5] at H
   exact absurd H (by simp)
 ·rw [if_neg c3] at H
  exact absurd H (by simp)
end Go.Proofs.Ytlepbhlbooajmaa.Q
namespace Go.Proofs.Ytlepbhlbooajmaa.Ext
open Go.RowKit Go.Proofs.Ytlepbhlbooajmaa.Q Go.Proofs.YtlepbhlbooajmaaW.PrintWords Go.Proofs.YtlepbhlbooajmaaW.PrintLast Go.Proofs.YtlepbhlbooajmaaW.PrintMore
set_option linter.unusedVariables false
set_option linter.unusedSimpArgs false
theorem iletter_calls (x : Int) (w : World) : Calls Try.prog 62 #[.int .u8 x] w fun e w' => e = .returned (.bool (ltrB x)) ∧ w = w' := by
 unfold ltrB
 by_cases h : 65 ≤ x
 ·have h1 : decide (65 ≤ x) = true := by simpa using h
  go_enter Try.func62, Try.ntmps62
  go_wp2
  go_ret
  exact ⟨by simp [h], rfl⟩
 ·have h1 : decide (65 ≤ x) = false := by simpa using h
  go_enter Try.func62, Try.ntmps62
  go_wp2
  go_ret
  exact ⟨by simp [h], rfl⟩
theorem iletter_as (x : Int) (w : World) {b : Bool} (h : ltrB x = b) : Calls Try.prog 62 #[.int .u8 x] w fun e w' => e = .returned (.bool b) ∧ w = w' := by
 subst h; exact iletter_calls x w
theorem within_as (a b c : Int) (w : World) {r : Bool} (h : inB a b c = r) : Calls Try.prog 32 #[.int .i64 a, .int .i64 b, .int .i64 c] w fun e w' => e = .returned (.bool r) ∧ w = w' := by
 subst h; exact within_calls a b c w
theorem sizeS_calls (A : Option Addr) (n c : Nat) (w : World) : Calls Try.prog 59 #[.slice A n c] w fun e w' => e = .returned (.int .i64 n) ∧ w = w' := by
 go_enter Try.func59, Try.ntmps59
 go_wp2
 go_ret
 exact ⟨rfl, rfl⟩
theorem cmpP_eq (z0 z1 x0 x1 : Int) : ∃ r, impl_comparePair.f 9 z0 z1 x0 x1 = some r ∧ decide (0 ≤ r) = ordB ⟨z0, z1⟩ ⟨x0, x1⟩ := by
 have hc : ∀ a b : Int, cmp_Compare_uint8.f a b = some (if a < b then -1 else if b < a then 1 else 0) := fun a b => by
  unfold cmp_Compare_uint8.f cmp_isNaN_uint8.f
  simp only [bne_self_eq_false, Option.bind_some, Bool.false_eq_true, if_false, GT.gt]
  repeat' split
  all_goals rfl
 have ho : ∀ a b : Int, cmp_Or_int.f 9 [a, b] = some (if a = 0 then b else a) := fun a b => by
  unfold cmp_Or_int.f
  have e1 : wrap64 1 = 1 := by unfold wrap64; omega
  have e2 : wrap64 2 = 2 := by unfold wrap64; omega
  by_cases ha : a = 0
  ·by_cases hb : b = 0
   ·subst ha hb; simp [cmp_Or_int.l0, rd, e1, e2]
   ·simp [cmp_Or_int.l0, rd, ha, hb, e1]
  ·simp [cmp_Or_int.l0, rd, ha]
 unfold impl_comparePair.f
 have h12 : (1 : Int) < 2 := by omega
 have h02 : (0 : Int) < 2 := by omega
 simp only [hc, ho, Option.bind_some, h12, h02, if_true]
 refine ⟨_, rfl, ?_⟩
 show decide (0 ≤ (if (if z0 < x0 then (-1 : Int) else if x0 < z0 then 1 else 0) = 0 then (if z1 < x1 then (-1 : Int) else if x1 < z1 then 1 else 0) else (if z0 < x0 then (-1 : Int) else if x0 < z0 then 1 else 0))) = _
 unfold ordB
 dsimp only
 by_cases h1 : z0 < x0
 ·have a1 : ¬ z0 > x0 := by omega
  have a2 : ¬ z0 = x0 := by omega
  simp [h1, a1, a2]
 ·by_cases h2 : x0 < z0
  ·simp [h1, h2]
  ·have : z0 = x0 := by omega
   subst this
   by_cases h3 : z1 < x1
   ·have a1 : ¬ z1 ≥ x1 := by omega
    simp [h3, a1]
   ·have a1 : z1 ≥ x1 := by omega
    by_cases h4 : x1 < z1 <;> simp [h3, h4, a1]
def validTab.T13 : Bool × List (List Nat × List Nat) := (true, [([], []), ([], []), ([1], [1]), ([0, 2], [0, 2]), ([], []), ([], []), ([5], [5]), ([4, 6, 3], [4, 6]), ([3, 7, 0, 1, 2, 3], [3]), ([7, 8, 0, 1, 2, 3, 4, 5, 6, 7, 8], [7])])
def validTab.B13 : List Nat := [0, 0, 2, 7, 0, 0, 32, 127, 255, 511]
theorem validTab.tab13 : rtab .any (opsOf Try.f31 13) = validTab.T13 := by kernel_rfl
theorem validTab.bits13 : waitsOk validTab.T13.2 validTab.B13 = true := by kernel_rfl
def validTab.T14 : Bool × List (List Nat × List Nat) := (true, [([], []), ([0], [0]), ([1], [1]), ([2], [2]), ([2], [2]), ([3, 4, 2], [2, 3, 4]), ([2, 5], [2, 5]), ([6, 2], [6]), ([7], [7]), ([8, 7], [7, 8]), ([9, 7, 7], [7, 9]), ([10], [10]), ([11, 10], [10, 11]), ([10], [10]), ([13, 10], [10, 13]), ([12, 14, 10], [10, 12, 14]), ([15, 10], [10, 15]), ([10], [10]), ([16, 17, 10, 10], [10, 16, 17]), ([18, 10], [10, 18]), ([10, 19, 7], [7, 10, 19]), ([7, 20], [7, 20])])
def validTab.B14 : List Nat := [0, 1, 3, 7, 7, 31, 63, 127, 255, 511, 1023, 2047, 4095, 2047, 10239, 32767, 65535, 2047, 262143, 524287, 1048575, 2097151]
theorem validTab.tab14 : rtab .any (opsOf Try.f31 14) = validTab.T14 := by kernel_rfl
theorem validTab.bits14 : waitsOk validTab.T14.2 validTab.B14 = true := by kernel_rfl
set_option maxHeartbeats 4000000 in
set_option maxRecDepth 100000 in
theorem validSys_calls (A0 A1 : Option Addr) (c0 c1 : Nat) (l0 : List Sg) (l1 : List P2) (w : World)
  (hr0 : Kd.C k102 w A0 l0.length l0) (hc0 : l0.length ≤ c0) (hr1 : Kd.C k104 w A1 l1.length l1) (hc1 : l1.length ≤ c1) (hw : wfSys l0 l1) :
  Calls Try.prog 31 #[.agg #[.slice A0 l0.length c0, .slice A1 l1.length c1]] w fun e w' => e = .returned (.bool (sysB l0 l1)) ∧ Below w.heap.size w w' := by
 have HR0 := Aside0.mk hr0
 have HC0 := Aside0.mk hc0
 clear hc0
 have HR1 := Aside0.mk hr1
 have HC1 := Aside0.mk hc1
 clear hc1
 have HW := Aside0.mk hw
 have HG := Aside0.mk (blk_new w (.cells #[.slice A0 l0.length c0, .slice A1 l1.length c1] 31 (0, 0)))
 have HX := Aside0.mk ((Below.refl w.heap.size w).alloc (Nat.le_refl _) (.cells #[.slice A0 l0.length c0, .slice A1 l1.length c1] 31 (0, 0)))
 clear hr0 hr1 hw
 go_enter Try.func31, Try.ntmps31
 go_wp2_with fail
 revert HG HX
 generalize (w.alloc (Obj.cells #[.slice A0 l0.length c0, .slice A1 l1.length c1] 31)) = v
 intro HG HX
 have hs0 : v.cell? ⟨w.heap.size, 0, none⟩ = some (.slice A0 l0.length c0) := (blk_cell HG.out 0).trans rfl
 have hs1 : v.cell? ⟨w.heap.size, 1, none⟩ = some (.slice A1 l1.length c1) := (blk_cell HG.out 1).trans rfl
 refine (sizeS_calls A0 l0.length c0 v).mono ?_
 rintro e w' ⟨rfl, rfl⟩
 go_wp2_with fail
 cases hq : inB (l0.length : Int) 1 8 with
 | false =>
  refine (within_as _ _ _ _ hq).mono ?_
  rintro e w' ⟨rfl, rfl⟩
  have HQ := Aside0.mk hq
  clear hq
  go_wp2_with fail
  go_ret
  refine ⟨?_, HX.out⟩
  rw [sysB_top (by unfold topB; rw [decide_eq_false (by have := HQ.out; unfold inB at this; simp at this; omega)]; rfl)]
  rfl
 | true =>
  have hlen : 1 ≤ l0.length ∧ l0.length ≤ 8 := by have := hq; unfold inB at this; simp at this; omega
  refine (within_as _ _ _ _ hq).mono ?_
  rintro e w' ⟨rfl, rfl⟩
  clear hq
  have HLEN := Aside0.mk hlen
  clear hlen
  cases h8 : decide ((8 : Int) < (l1.length : Int)) with
  | true =>
   have H8 := Aside0.mk (of_decide_eq_true h8)
   go_wp2_with fail
   go_ret
   refine ⟨?_, HX.out⟩
   rw [sysB_top (by unfold topB; rw [decide_eq_false (p := l1.length ≤ 8) (by have := H8.out; omega)]; simp)]
   rfl
  | false =>
   have H8 : Aside0 (l1.length ≤ 8) := ⟨by have := of_decide_eq_false h8; omega⟩
   obtain ⟨ad, rfl, hc⟩ := sgn_cells HR0.out HX.out (by have := HLEN.out; omega)
   have HS := Aside0.mk hc
   clear hc
   obtain ⟨m, hm⟩ : ∃ m, l0.length = m + 1 := ⟨l0.length - 1, by have := HLEN.out; omega⟩
   have HM := Aside0.mk hm
   have hsub : wrap64 ((l0.length : Int) - 1) = (m : Int) := by unfold wrap64; have := HLEN.out; omega
   have hm0 : (m : Int) < (l0.length : Int) := by omega
   have hx1 := (HS.out m (by omega)).2
   clear hm
   generalize hy : (sgAt l0 m).f1 = y1 at hx1
   have HY := Aside0.mk hy
   clear hy
   cases hq3 : (y1 == 1) with
   | false =>
    have HQ := Aside0.mk hq3
    have hq4 : (y1 != 1) = true := by rw [bne, hq3]; rfl
    go_wp2_with fail
    go_ret
    refine ⟨?_, HX.out⟩
    rw [sysB_top (by unfold topB; rw [show l0.length - 1 = m from by rw [HM.out]; rfl, HY.out, HQ.out]; simp)]
    rfl
   | true =>
    have HT : Aside0 (topB l0 l1 = true) := ⟨by unfold topB; rw [show l0.length - 1 = m from by rw [HM.out]; rfl, HY.out, hq3, decide_eq_true HLEN.out, decide_eq_true H8.out]; rfl⟩
    have hq4 : (y1 != 1) = false := by rw [bne, hq3]; rfl
    go_wp2_with fail
    clear hx1 hq3 hq4 hsub hm0 HY HM h8
    have HS0 := Aside0.mk hs0
    have HS1 := Aside0.mk hs1
    clear hs0 hs1
    go_loopg [36] l0.length (fun gg s36 wr => ∃ kk : Nat, kk ≤ l0.length ∧ l0.length - kk ≤ gg ∧ s36 = .int .i64 kk ∧ Aside0 (Below v.heap.size v wr) ∧ Aside0 (∀ j, j < kk → signB l0 j = true))
    case atStart => exact ⟨0, by omega, by omega, rfl, ⟨Below.refl _ _⟩, ⟨fun j hj => absurd hj (Nat.not_lt_zero _)⟩⟩
    case round =>
     obtain ⟨kk, hkk, hgk, rfl, HB, AS⟩ := hrel
     by_cases hlt : kk < l0.length
     ·have hltz : (kk : Int) < (l0.length : Int) := by omega
      have hl8 := HLEN.out.2
      have hkc : kk ≤ c0 := by have := HC0.out; omega
      have hkci : (kk : Int) ≤ (c0 : Int) := by omega
      have hs0 := cellB_ HB.out HS0.out
      have hx0 := cellB_ HB.out (HS.out kk hlt).1
      have hx1 := cellB_ HB.out (HS.out kk hlt).2
      have hwy := HW.out.1 _ (sgAt_mem hlt)
      generalize hy : sgAt l0 kk = y at hx0 hx1 hwy
      have HY := Aside0.mk hy
      clear hy
      obtain ⟨y0, y1⟩ := y
      dsimp only at hx0 hx1 hwy
      have hs07 : (wr.alloc (Obj.cells #[Value.int .u8 y0, Value.int .i16 y1] 102)).cell? ⟨w.heap.size, 0, none⟩ = some (.slice (some ad) l0.length c0) := by rw [World.cell?_alloc_some _ _ _ (by rw [hs0]; rfl)]; exact hs0
      go_wp2_with fail
      have B7 := Aside0.mk (blk_new wr (.cells #[.int .u8 y0, .int .i16 y1] 102 (0, 0)))
      have HB7 := Aside0.mk (HB.out.alloc HB.out.size (.cells #[.int .u8 y0, .int .i16 y1] 102 (0, 0)))
      clear hs0 hs07 hx0 hx1
      generalize hW : (wr.alloc (Obj.cells #[Value.int .u8 y0, Value.int .i16 y1] 102)) = W7 at B7 HB7
      clear hW
      have hm0 : W7.cell? ⟨wr.heap.size, 0, none⟩ = some (.int .u8 y0) := (blk_cell B7.out 0).trans rfl
      have hm1 : W7.cell? ⟨wr.heap.size, 1, none⟩ = some (.int .i16 y1) := (blk_cell B7.out 1).trans rfl
      have hcf := containsFunc_sg 61 #[.pointer (some ⟨wr.heap.size, 0, none⟩)] (fun y => y.f0 == y0) (fun _ _ => rfl) (some ad) c0 (l0.take kk) W7 (pred_same wr.heap.size y0 W7 hm0) (Kd.C_take (Kd.C_below HR0.out (below_step HX.out HB7.out)) (by omega))
      rw [show (l0.take kk).length = kk from by rw [List.length_take]; omega] at hcf
      have hdup : (l0.take kk).any (fun y => y.f0 == y0) = dupB l0 kk := by unfold dupB; rw [HY.out]
      rw [hdup] at hcf
      refine hcf.mono ?_
      rintro e w8 ⟨rfl, hd⟩
      have HB8 := Aside0.mk (below_step HB7.out hd)
      have hn0 : w8.cell? ⟨wr.heap.size, 0, none⟩ = some (.int .u8 y0) := (blk_cell (blk_below B7.out hd) 0).trans rfl
      have hn1 : w8.cell? ⟨wr.heap.size, 1, none⟩ = some (.int .i16 y1) := (blk_cell (blk_below B7.out hd) 1).trans rfl
      have hs0 := cellB_ HB8.out HS0.out
      clear hcf hd hdup hm0 hm1 hkc hkci
      have hwr : wrap64 y1 = y1 := by unfold wrap64; omega
      have HWI : Aside0 (IntKind.i64.wrap y1 = y1) := ⟨by simp [IntKind.wrap, IntKind.signed, IntKind.bits]; omega⟩
      clear hwy
      cases hS : dupB l0 kk
      ·go_wp2_with fail
       cases hA : ltrB y0
       ·go_quiet (first | (go_at_call 62; exact q_same (iletter_as _ _ hA)))
        have HA := Aside0.mk hA
        clear hA
        go_wp2_with fail
        go_ret
        refine ⟨?_, below_step HX.out (by repeat (first | exact HB8.out | apply bwA | apply pwN | apply bw1))⟩
        rw [sysB_sign hlt (by unfold signB; unfold letB; rw [HY.out]; have := HA.out; unfold ltrB at this; rw [this]; rfl)]
        rfl
       ·cases hC : inB y1 1 5000
        ·have HC3 : Aside0 (inB (IntKind.i64.wrap y1) 1 5000 = false) := ⟨by rw [HWI.out]; exact hC⟩
         go_quiet (first | (go_at_call 62; exact q_same (iletter_as _ _ hA)) | (go_at_call 32; exact q_same (within_as _ _ _ _ HC3.out)) | (go_at_call 32; exact q_same (within_as _ _ _ _ hC)))
         have HC := Aside0.mk hC
         clear hA hC
         go_wp2_with fail
         go_ret
         refine ⟨?_, below_step HX.out (by repeat (first | exact HB8.out | apply bwA | apply pwN | apply bw1))⟩
         rw [sysB_sign hlt (by unfold signB; unfold rngB; rw [HY.out]; have := HC.out; unfold inB at this; rw [this]; simp)]
         rfl
        ·have HC3 : Aside0 (inB (IntKind.i64.wrap y1) 1 5000 = true) := ⟨by rw [HWI.out]; exact hC⟩
         have HLR : Aside0 ((letB (sgAt l0 kk) && rngB (sgAt l0 kk)) = true) := ⟨by unfold letB rngB; rw [HY.out]; have h1 := hA; have h2 := hC; unfold ltrB at h1; unfold inB at h2; rw [h1, h2]; rfl⟩
         cases hP : decide (0 < kk)
         ·have hPi : decide ((0 : Int) < (kk : Int)) = false := decide_eq_false (by have := of_decide_eq_false hP; omega)
          have HU : Aside0 (upB l0 kk = false) := ⟨by unfold upB; rw [hP]; rfl⟩
          have HSS := Aside0.mk hS
          go_quiet (first | (go_at_call 62; exact q_same (iletter_as _ _ hA)) | (go_at_call 32; exact q_same (within_as _ _ _ _ HC3.out)) | (go_at_call 32; exact q_same (within_as _ _ _ _ hC)))
          clear hA hC hP hPi hs0 hS
          have HSG : Aside0 (signB l0 kk = true) := ⟨by unfold signB; rw [HSS.out, HU.out, HLR.out]; rfl⟩
          clear hwr
          go_wp2_with fail
          go_roundg (l0.length - (kk + 1))
          case measure => omega
          case rel =>
           refine ⟨kk + 1, by omega, by omega, by go_num, ⟨(by repeat (first | exact HB8.out | apply bwA | apply pwN | apply bw1))⟩, ⟨fun j hj => ?_⟩⟩
           by_cases e : j = kk
           ·subst e; exact HSG.out
           ·exact AS.out j (by omega)
         ·have hk0 : 0 < kk := of_decide_eq_true hP
          have hPi : decide ((0 : Int) < (kk : Int)) = true := decide_eq_true (by omega)
          obtain ⟨p, hp⟩ : ∃ p, p = kk - 1 := ⟨_, rfl⟩
          have hsub : wrap64 ((kk : Int) - 1) = (p : Int) := by unfold wrap64; omega
          have hpn : (p : Int) < (l0.length : Int) := by omega
          have hp1 := cellB_ HB8.out (HS.out p (by omega)).2
          generalize hz : (sgAt l0 p).f1 = z1 at hp1
          have hb1 : (1 : Int) ≤ (kk : Int) := by omega
          have hb2 : (kk : Int) - 1 < (l0.length : Int) := by omega
          have hq1 : w8.cell? ⟨(ad.add ((kk - 1) * 2)).block, (ad.add ((kk - 1) * 2)).off + 1, none⟩ = some (.int .i16 z1) := by rw [← hp]; exact hp1
          have HZ := Aside0.mk hz
          have HP := Aside0.mk hp
          have HK0 := Aside0.mk hk0
          clear hz hp hk0
          cases hD : decide (z1 ≤ y1)
          ·have HU : Aside0 (upB l0 kk = false) := ⟨by unfold upB; rw [← HP.out, HZ.out, HY.out]; rw [show decide (y1 ≥ z1) = false from hD]; simp⟩
           have HSS := Aside0.mk hS
           go_quiet (first | (go_at_call 62; exact q_same (iletter_as _ _ hA)) | (go_at_call 32; exact q_same (within_as _ _ _ _ HC3.out)) | (go_at_call 32; exact q_same (within_as _ _ _ _ hC)))
           clear hA hC hP hPi hs0 hS hD hp1 hsub hpn hb1 hb2 hq1 HZ HP HK0
           have HSG : Aside0 (signB l0 kk = true) := ⟨by unfold signB; rw [HSS.out, HU.out, HLR.out]; rfl⟩
           clear hwr
           go_wp2_with fail
           go_roundg (l0.length - (kk + 1))
           case measure => omega
           case rel =>
            refine ⟨kk + 1, by omega, by omega, by go_num, ⟨(by repeat (first | exact HB8.out | apply bwA | apply pwN | apply bw1))⟩, ⟨fun j hj => ?_⟩⟩
            by_cases e : j = kk
            ·subst e; exact HSG.out
            ·exact AS.out j (by omega)
          ·have HU : Aside0 (upB l0 kk = true) := ⟨by unfold upB; rw [← HP.out, HZ.out, HY.out, decide_eq_true HK0.out]; rw [show decide (y1 ≥ z1) = true from hD]; rfl⟩
           go_quiet (first | (go_at_call 62; exact q_same (iletter_as _ _ hA)) | (go_at_call 32; exact q_same (within_as _ _ _ _ HC3.out)) | (go_at_call 32; exact q_same (within_as _ _ _ _ hC)))
           clear hA hC hP hD
           go_wp2_with fail
           go_ret
           refine ⟨?_, below_step HX.out (by repeat (first | exact HB8.out | apply bwA | apply pwN | apply bw1))⟩
           rw [sysB_sign hlt (by unfold signB; rw [HU.out]; simp)]
           rfl
      ·have HSS := Aside0.mk hS
       go_wp2_with fail
       cases hA : ltrB y0
       ·go_quiet (first | (go_at_call 62; exact q_same (iletter_as _ _ hA)))
        clear hA
        go_wp2_with fail
        go_ret
        refine ⟨?_, below_step HX.out (by repeat (first | exact HB8.out | apply bwA | apply pwN | apply bw1))⟩
        rw [sysB_sign hlt (by unfold signB; rw [HSS.out]; simp)]
        rfl
       ·go_quiet (first | (go_at_call 62; exact q_same (iletter_as _ _ hA)))
        clear hA
        go_wp2_with fail
        go_ret
        refine ⟨?_, below_step HX.out (by repeat (first | exact HB8.out | apply bwA | apply pwN | apply bw1))⟩
        rw [sysB_sign hlt (by unfold signB; rw [HSS.out]; simp)]
        rfl
     ·have hltz : ¬ (kk : Int) < (l0.length : Int) := by omega
      obtain rfl : kk = l0.length := by omega
      have hs1 := cellB_ HB.out HS1.out
      go_wp2_with fail
      clear hs1
      go_loopg [81] l1.length (fun gg s81 wr => ∃ k2 : Nat, k2 ≤ l1.length ∧ l1.length - k2 ≤ gg ∧ s81 = .int .i64 k2 ∧ Aside0 (Below v.heap.size v wr) ∧ Aside0 (∀ j, j < k2 → minB l0 l1 j = true))
      case atStart => exact ⟨0, by omega, by omega, rfl, HB, ⟨fun j hj => absurd hj (Nat.not_lt_zero _)⟩⟩
      case round =>
       clear HB
       have hl8 := H8.out
       have hl0 := HLEN.out.2
       obtain ⟨k2, hk2, hg2, rfl, HB, AM⟩ := hrel
       by_cases hl2 : k2 < l1.length
       ·have hltz : (k2 : Int) < (l1.length : Int) := by omega
        obtain ⟨am, rfl, hcm⟩ := min_cells HR1.out HX.out (by omega)
        have hx0 := cellB_ HB.out (hcm k2 hl2).1
        have hx1 := cellB_ HB.out (hcm k2 hl2).2
        have HCM := Aside0.mk hcm
        clear hcm
        generalize hy : p2At l1 k2 = y at hx0 hx1
        have HY := Aside0.mk hy
        clear hy
        obtain ⟨y0, y1⟩ := y
        dsimp only at hx0 hx1
        go_wp2_with fail
        have B7 := Aside0.mk (blk_new wr (.cells #[.int .u8 y0, .int .u8 y1] 104 (0, 0)))
        have HB7 := Aside0.mk (HB.out.alloc HB.out.size (.cells #[.int .u8 y0, .int .u8 y1] 104 (0, 0)))
        generalize hW : (wr.alloc (Obj.cells #[Value.int .u8 y0, Value.int .u8 y1] 104)) = W7 at B7 HB7
        clear hW hx0 hx1
        have hm0 : W7.cell? ⟨wr.heap.size, 0, none⟩ = some (.int .u8 y0) := (blk_cell B7.out 0).trans rfl
        have hm1 : W7.cell? ⟨wr.heap.size, 1, none⟩ = some (.int .u8 y1) := (blk_cell B7.out 1).trans rfl
        have hs0 := cellB_ HB7.out HS0.out
        have hs1 := cellB_ HB7.out HS1.out
        have HBW := Aside0.mk (below_step HX.out HB7.out)
        have HVA : Aside0 (impl_System_value.f 9 l0 l1 y0 = some (valS l0 y0)) := ⟨value_eq l1 HW.out.1 (by omega) y0 (by omega)⟩
        have HVB : Aside0 (impl_System_value.f 9 l0 l1 y1 = some (valS l0 y1)) := ⟨value_eq l1 HW.out.1 (by omega) y1 (by omega)⟩
        generalize ha : valS l0 y0 = a at HVA
        have HA := Aside0.mk ha
        clear ha
        generalize hb : valS l0 y1 = b at HVB
        have HBV := Aside0.mk hb
        clear hb
        refine start_ (n := 10) (S := fun w' => w'.cell? ⟨w.heap.size, 0, none⟩ = some (.slice (some ad) l0.length c0) ∧ w'.cell? ⟨w.heap.size, 1, none⟩ = some (.slice (some am) l1.length c1) ∧ w'.cell? ⟨wr.heap.size, 0, none⟩ = some (.int .u8 y0) ∧ w'.cell? ⟨wr.heap.size, 1, none⟩ = some (.int .u8 y1)) (ds := [7]) #[false, false, false, false, false, false, false, false, false, false] (by kernel_rfl) rfl rfl ⟨hs0, hs1, hm0, hm1⟩ (fun hHeld => ?_)
        refine with_tabW validTab.tab13 validTab.bits13 (fun HT_ HW_ => ?_)
        refine pu_ 1 (some 87) HT_ ?_
        refine pu_ 5 (some 91) HT_ ?_
        refine tk_ 0 (some 86) HT_ HW_ hHeld rfl (by rintro w' ⟨s0, s1, s2, s3⟩; go_simp; with_reducible rfl) ?_
        refine tk_ 2 (some 88) HT_ HW_ hHeld rfl (by rintro w' ⟨s0, s1, s2, s3⟩; go_simp; with_reducible rfl) ?_
        refine tk_ 4 (some 90) HT_ HW_ hHeld rfl (by rintro w' ⟨s0, s1, s2, s3⟩; go_simp; with_reducible rfl) ?_
        refine tk_ 6 (some 92) HT_ HW_ hHeld rfl (by rintro w' ⟨s0, s1, s2, s3⟩; go_simp; with_reducible rfl) ?_
        refine on_ 3 (some 89) HT_ fun K hK => ?_
        refine goes_ Try.func63 (by kernel_rfl) rfl #[.agg #[.slice (some ad) l0.length c0, .slice (some am) l1.length c1], .int .u8 y0] (by rfl) rfl rfl (by simp only [List.map_toArray, List.map_cons, List.map_nil]; rfl) ?_
        with_reducible refine (impl_System_value.calls 9 (some ad) c0 l0 (some am) c1 l1 y0 a _ (Kd.C_below HR0.out (bw1 HBW.out)) HC0.out (Kd.C_below HR1.out (bw1 HBW.out)) HC1.out HVA.out).mono ?_
        rintro e w3 ⟨rfl, hb3⟩
        refine ⟨_, rfl, ?_⟩
        refine hK.out _ _ ⟨cellB_ hb3 (hHeld.1), cellB_ hb3 (hHeld.2.1), cellB_ hb3 (hHeld.2.2.1), cellB_ hb3 (hHeld.2.2.2)⟩ (fun hHeld => ?_)
        clear hK K
        refine nm_ (some 89) ?_
        refine la_ 7 (some 93) HT_ fun K hK => ?_
        refine goes_ Try.func63 (by kernel_rfl) rfl #[.agg #[.slice (some ad) l0.length c0, .slice (some am) l1.length c1], .int .u8 y1] (by rfl) rfl rfl (by simp only [List.map_toArray, List.map_cons, List.map_nil]; rfl) ?_
        with_reducible refine (impl_System_value.calls 9 (some ad) c0 l0 (some am) c1 l1 y1 b _ (Kd.C_below HR0.out (below_step (bw1 HBW.out) hb3)) HC0.out (Kd.C_below HR1.out (below_step (bw1 HBW.out) hb3)) HC1.out HVB.out).mono ?_
        rintro e w5 ⟨rfl, hb5⟩
        refine ⟨_, rfl, ?_⟩
        refine hK.out _ _ ?_
        clear hK K
        refine nm_ (some 93) ?_
        refine pu_ 8 (some 8) HT_ ?_
        refine pu_ 9 (some 9) HT_ ?_
        refine done_ (done_of HT_.out (by kernel_rfl)) ?_
        have HB9 := Aside0.mk (below_step (below_step (bw1 HB7.out) hb3) hb5)
        have B9 := Aside0.mk (blk_below (blk_below (blk_drew B7.out) hb3) hb5)
        have HM0 : Aside0 (w5.cell? ⟨wr.heap.size, 0, none⟩ = some (.int .u8 y0)) := ⟨(blk_cell B9.out 0).trans rfl⟩
        have HM1 : Aside0 (w5.cell? ⟨wr.heap.size, 1, none⟩ = some (.int .u8 y1)) := ⟨(blk_cell B9.out 1).trans rfl⟩
        clear hb3 hb5 hHeld hm0 hm1 hs0 hs1 HBW B7 B9 HVA HVB
        cases h0 : (a == 0)
        ·cases hle : decide (b ≤ a)
         ·have HMV : Aside0 (mvB l0 ⟨y0, y1⟩ = true) := ⟨by unfold mvB; dsimp only; rw [HA.out, HBV.out, h0, hle]; rfl⟩
          cases k2 with
          | zero =>
           have HMB : Aside0 (minB l0 l1 0 = true) := ⟨by unfold minB; rw [HY.out, HMV.out]; rfl⟩
           clear HY
           have hP0 : decide ((0 : Int) < ((0 : Nat) : Int)) = false := rfl
           go_wp2_with fail
           go_quiet (fail)
           clear h0 hle hP0
           go_wp2_with fail
           go_roundg (l1.length - (0 + 1))
           case measure => omega
           case rel =>
            refine ⟨0 + 1, by omega, by omega, by go_num, ⟨(by repeat (first | exact HB9.out | apply bwA | apply pwN | apply bw1))⟩, ⟨fun j hj => ?_⟩⟩
            obtain rfl : j = 0 := by omega
            exact HMB.out
          | succ m =>
           have hpos : decide ((0 : Int) < ((m + 1 : Nat) : Int)) = true := decide_eq_true (by omega)
           have hsub : ((m + 1 : Nat) : Int) - 1 = (m : Int) := by omega
           have hwm : wrap64 (m : Int) = (m : Int) := by unfold wrap64; omega
           have hml : (m : Int) < (l1.length : Int) := by omega
           have hp0 := cellB_ HB9.out (HCM.out m (by omega)).1
           have hp1 := cellB_ HB9.out (HCM.out m (by omega)).2
           obtain ⟨z, hz⟩ : ∃ z, z = p2At l1 m := ⟨_, rfl⟩
           rw [← hz] at hp0 hp1
           have HZ := Aside0.mk hz.symm
           clear hz
           obtain ⟨z0, z1⟩ := z
           dsimp only at hp0 hp1
           have hm0 := HM0.out
           have hm1 := HM1.out
           have hs1 := cellB_ HB9.out HS1.out
           obtain ⟨r, hr, hr2⟩ := cmpP_eq z0 z1 y0 y1
           have HR2 := Aside0.mk hr2
           replace hr := Aside0.mk hr
           clear hr2
           go_wp2_with fail
           refine start_ (n := 22) (S := fun w' => w'.cell? ⟨w.heap.size, 1, none⟩ = some (.slice (some am) l1.length c1) ∧ w'.cell? (am.add (m * 2)) = some (.int .u8 z0) ∧ w'.cell? ⟨(am.add (m * 2)).block, (am.add (m * 2)).off + 1, none⟩ = some (.int .u8 z1) ∧ w'.cell? ⟨wr.heap.size, 0, none⟩ = some (.int .u8 y0) ∧ w'.cell? ⟨wr.heap.size, 1, none⟩ = some (.int .u8 y1)) (ds := [18]) #[false, false, false, false, false, false, false, false, false, false, false, false, false, false, false, false, false, false, false, false, false, false] (by kernel_rfl) rfl rfl ⟨hs1, hp0, hp1, hm0, hm1⟩ (fun hHeld => ?_)
           refine with_tabW validTab.tab14 validTab.bits14 (fun HT_ HW_ => ?_)
           refine pu_ 0 (some 94) HT_ ?_
           refine pu_ 1 (some 95) HT_ ?_
           refine pu_ 2 (some 96) HT_ ?_
           refine pu_ 3 (some 97) HT_ ?_
           refine pu_ 4 (some 98) HT_ ?_
           refine pu_ 5 (some 99) HT_ ?_
           refine pu_ 6 (some 100) HT_ ?_
           refine pu_ 7 (some 101) HT_ ?_
           refine pu_ 8 (some 102) HT_ ?_
           refine pu_ 9 (some 103) HT_ ?_
           refine pu_ 10 (some 104) HT_ ?_
           refine pu_ 11 (some 105) HT_ ?_
           refine pu_ 13 (some 107) HT_ ?_
           refine pu_ 14 (some 108) HT_ ?_
           refine tk_ 12 (some 106) HT_ HW_ hHeld rfl (by rintro w' ⟨s0, s1, s2, s3, s4⟩; go_simp; with_reducible rfl) ?_
           refine pu_ 15 (some 109) HT_ ?_
           refine tk_ 16 (some 110) HT_ HW_ hHeld rfl (by rintro w' ⟨s0, s1, s2, s3, s4⟩; go_simp; with_reducible rfl) ?_
           refine tk_ 17 (some 111) HT_ HW_ hHeld rfl (by rintro w' ⟨s0, s1, s2, s3, s4⟩; go_simp; with_reducible rfl) ?_
           refine la_ 18 (some 112) HT_ fun K hK => ?_
           refine goes_ Try.func64 (by kernel_rfl) rfl #[.agg #[.int .u8 z0, .int .u8 z1], .agg #[.int .u8 y0, .int .u8 y1]] (by rfl) rfl rfl (by simp only [List.map_toArray, List.map_cons, List.map_nil]; rfl) ?_
           with_reducible refine (impl_comparePair.calls 9 z0 z1 y0 y1 r _ hr.out).mono ?_
           rintro e w9 ⟨rfl, hb9⟩
           refine ⟨_, rfl, ?_⟩
           refine hK.out _ _ ?_
           clear hK K
           refine nm_ (some 112) ?_
           refine pu_ 19 (some 113) HT_ ?_
           refine pu_ 20 (some 114) HT_ ?_
           refine pu_ 21 (some 115) HT_ ?_
           refine done_ (done_of HT_.out (by kernel_rfl)) ?_
           have HB19 := Aside0.mk (below_step (bw1 HB9.out) hb9)
           have HMB : Aside0 (minB l0 l1 (m + 1) = !ordB ⟨z0, z1⟩ ⟨y0, y1⟩) := ⟨by unfold minB; rw [HY.out, HMV.out, show m + 1 - 1 = m from rfl, HZ.out]; simp⟩
           clear hb9 hm0 hm1 hs1 hp0 hp1 hHeld h0 hle hpos hsub hwm hml hr
           cases hO : decide (0 ≤ r)
           ·have HO : Aside0 (ordB ⟨z0, z1⟩ ⟨y0, y1⟩ = false) := ⟨HR2.out.symm.trans hO⟩
            go_wp2_with fail
            go_roundg (l1.length - (m + 1 + 1))
            case measure => omega
            case rel =>
             refine ⟨m + 1 + 1, by omega, by omega, by go_num, ⟨(by repeat (first | exact HB19.out | apply bwA | apply pwN | apply bw1))⟩, ⟨fun j hj => ?_⟩⟩
             by_cases e : j = m + 1
             ·subst e; rw [HMB.out, HO.out]; rfl
             ·exact AM.out j (by omega)
           ·have HO : Aside0 (ordB ⟨z0, z1⟩ ⟨y0, y1⟩ = true) := ⟨HR2.out.symm.trans hO⟩
            go_wp2_with fail
            go_ret
            refine ⟨?_, below_step HX.out (by repeat (first | exact HB19.out | apply bwA | apply pwN | apply bw1))⟩
            rw [sysB_min hl2 (by rw [HMB.out, HO.out]; rfl)]
            rfl
         ·have HMV : Aside0 (mvB l0 ⟨y0, y1⟩ = false) := ⟨by unfold mvB; dsimp only; rw [HA.out, HBV.out, hle]; simp⟩
          go_wp2_with fail
          go_quiet (fail)
          clear h0 hle
          go_wp2_with fail
          go_ret
          refine ⟨?_, below_step HX.out (by repeat (first | exact HB9.out | apply bwA | apply pwN | apply bw1))⟩
          rw [sysB_min hl2 (by unfold minB; rw [HY.out, HMV.out]; rfl)]
          rfl
        ·have HMV : Aside0 (mvB l0 ⟨y0, y1⟩ = false) := ⟨by unfold mvB; dsimp only; rw [HA.out, h0]; rfl⟩
         go_wp2_with fail
         go_quiet (fail)
         clear h0
         go_wp2_with fail
         go_ret
         refine ⟨?_, below_step HX.out (by repeat (first | exact HB9.out | apply bwA | apply pwN | apply bw1))⟩
         rw [sysB_min hl2 (by unfold minB; rw [HY.out, HMV.out]; rfl)]
         rfl
       ·have hltz : ¬ (k2 : Int) < (l1.length : Int) := by omega
        obtain rfl : k2 = l1.length := by omega
        go_wp2_with fail
        go_ret
        refine ⟨?_, below_step HX.out HB.out⟩
        rw [sysB_true HT.out AS.out AM.out]
        rfl
abbrev Pt := S81
def sgPart (s : Sg) : Pt := ⟨strOfNums [s.f0], s.f1⟩
def mnPart (l0 : List Sg) (p : P2) : Pt := ⟨strOfNums [p.f0, p.f1], valS l0 p.f1 - valS l0 p.f0⟩
def partsL (l0 : List Sg) (l1 : List P2) : List Pt := l0.map sgPart ++ l1.map (mnPart l0)
theorem take_map_succ {α β : Type} (f : α → β) (l : List α) (z : α) (k : Nat) (h : k < l.length) : (l.take (k + 1)).map f = (l.take k).map f ++ [f (l.getD k z)] := by
 rw [List.take_add_one, List.getElem?_eq_getElem h, Option.toList_some, List.map_append, List.getD_eq_getElem?_getD, List.getElem?_eq_getElem h]
 rfl
theorem conv2 {w : World} {g : Nat} {y0 y1 : Int} (h0 : w.cell? ⟨g, 0, none⟩ = some (.int .u8 y0)) (h1 : w.cell? ⟨g, 1, none⟩ = some (.int .u8 y1)) :
  (convert 106 9 (.slice (some ⟨g, 0, none⟩) 2 2)).run Try.prog w = .ok (.string (strOfNums [y0, y1])) w := by
 refine run_convert_bytes_arg w 106 5 Try.underlying106 Try.underlying5 g 0 2 2 [y0, y1] rfl (fun i hi => ?_) 9 Try.underlying9
 match i, hi with
 | 0, _ => exact h0
 | 1, _ => exact h1
def partsTab.T10 : Bool × List (List Nat × List Nat) := (true, [([], []), ([], []), ([1], [1]), ([], []), ([], []), ([4], [4]), ([3, 5], [3, 5]), ([], []), ([], []), ([8], [8]), ([7, 9, 6], [7, 9]), ([6, 10], [6, 10]), ([2, 11], [2, 11]), ([12], [12]), ([0, 13, 10], [0, 13]), ([14, 14, 0, 1, 2, 3, 4, 5, 6, 7, 8, 9, 10, 11, 12, 13, 14], [0, 14])])
def partsTab.B10 : List Nat := [0, 0, 2, 0, 0, 16, 56, 0, 0, 256, 1016, 2040, 4094, 8190, 16383, 32767]
theorem partsTab.tab10 : rtab .any (opsOf Try.f65 10) = partsTab.T10 := by kernel_rfl
theorem partsTab.bits10 : waitsOk partsTab.T10.2 partsTab.B10 = true := by kernel_rfl
set_option maxHeartbeats 4000000 in
set_option maxRecDepth 100000 in
theorem parts_calls (A0 A1 : Option Addr) (c0 c1 : Nat) (l0 : List Sg) (l1 : List P2) (w : World)
  (hr0 : Kd.C k102 w A0 l0.length l0) (hc0 : l0.length ≤ c0) (hr1 : Kd.C k104 w A1 l1.length l1) (hc1 : l1.length ≤ c1) (hw : wfSys l0 l1) (hl0 : l0.length ≤ 1000) (hl1 : l1.length ≤ 1000) :
  Calls Try.prog 65 #[.agg #[.slice A0 l0.length c0, .slice A1 l1.length c1]] w fun e w' => ∃ v0_ : Value, e = .returned v0_ ∧ Kd.R k81 81 w' w.heap.size (fun _ => True) v0_ (partsL l0 l1) ∧ Below w.heap.size w w' := by
 have hu104 := Try.underlying104
 have HR0 := Aside0.mk hr0
 have HC0 := Aside0.mk hc0
 have HR1 := Aside0.mk hr1
 have HC1 := Aside0.mk hc1
 have HW := Aside0.mk hw
 have HL0 := Aside0.mk hl0
 have HL1 := Aside0.mk hl1
 have HG := Aside0.mk (blk_new w (.cells #[.slice A0 l0.length c0, .slice A1 l1.length c1] 31 (0, 0)))
 have HX := Aside0.mk ((Below.refl w.heap.size w).alloc (Nat.le_refl _) (.cells #[.slice A0 l0.length c0, .slice A1 l1.length c1] 31 (0, 0)))
 clear hr0 hc0 hr1 hc1 hw hl0 hl1
 go_enter Try.func65, Try.ntmps65
 go_wp2_with (first | ((with_reducible refine gate_dst (N := 8) rfl ?_); refine Kd.R_lit k81 _ 81 ?hg (N := 8) ?hd (xs := ([] : List Pt)) (inner := []) (ok := fun _ => True) (okp := fun _ => True) ?hr ?hp (fun _ hk => hk) trivial (Below.refl _ _) (Nat.le_refl _) (by simp) ?_; (case hd => rfl); (case hg => rfl); (case hr => first | (go_simp; done) | (go_simp; rfl)); (case hp => exact (Reps.none _ _)); intro v8 w2 ho hb hg_ hnew_; have HO := Aside0.mk (Kd.R_lower ho HX.out.size); have HB := Aside0.mk (below_step HX.out hb); have HG2 := Aside0.mk (blk_below HG.out hb); have hs0 : w2.cell? ⟨w.heap.size, 0, none⟩ = some (.slice A0 l0.length c0) := (blk_cell HG2.out 0).trans rfl; clear ho hb hg_ hnew_) | fail)
 clear hs0
 go_loopg [3, 12] l0.length (fun gg v3 v12 wr => ∃ kk : Nat, kk ≤ l0.length ∧ l0.length - kk ≤ gg ∧ v12 = .int .i64 kk ∧ Aside0 (Kd.R k81 81 wr w.heap.size (fun _ => True) v3 ((l0.take kk).map sgPart)) ∧ Aside0 (Below w.heap.size w wr) ∧ Aside0 (wr.heap[w.heap.size]? = some (.cells #[.slice A0 l0.length c0, .slice A1 l1.length c1] 31 (0, 0))))
 case atStart => exact ⟨0, Nat.zero_le _, by omega, rfl, HO, HB, HG2⟩
 case round =>
  clear HO HB HG2
  obtain ⟨kk, hkk, hgk, rfl, HO, HB, HG2⟩ := hrel
  by_cases hlt : kk < l0.length
  ·have hltz : (kk : Int) < (l0.length : Int) := by omega
   obtain ⟨ad, rfl, hcs⟩ := sgn_cells HR0.out HB.out (by omega)
   have hx0 := (hcs kk hlt).1
   have hx1 := (hcs kk hlt).2
   clear hcs
   have hwy := HW.out.1 _ (sgAt_mem hlt)
   have HNX := Aside0.mk (take_map_succ sgPart l0 z102 kk hlt)
   rw [show l0.getD kk z102 = sgAt l0 kk from rfl] at HNX
   generalize hy : sgAt l0 kk = y at hx0 hx1 hwy HNX
   clear hy
   obtain ⟨y0, y1⟩ := y
   dsimp only at hx0 hx1 hwy
   have hwr : wrap64 y1 = y1 := by unfold wrap64; omega
   clear hwy
   have hl0' := HL0.out
   go_wp2_with (first | ((with_reducible refine gate_dst (N := 19) rfl ?_); refine Kd.R_lit (Kd.int .u8) _ 5 ?hg (N := 19) ?hd (xs := ([y0] : List Int)) (inner := [.int .u8 y0]) (ok := fun _ => True) (okp := fun _ => True) ?hr ?hp (fun _ hk => hk) trivial (Below.refl _ _) (Nat.le_refl _) (by simp) ?_; (case hd => rfl); (case hg => rfl); (case hr => first | (go_simp; done) | (go_simp; rfl)); (case hp => exact (Reps.one (show Kd.M (Kd.int .u8) _ _ _ y0 [.int .u8 y0] from rfl) (Reps.none _ _))); intro v19 w10 ho hb hg_ hnew_; have n0_ := Aside0.mk (Kd.R_below (by (with_reducible repeat (first | apply Kd.R_alloc | apply Kd.R_drewN | apply Kd.R_drew)); exact HO.out) hb); have n1_ := Aside0.mk (below_step (by repeat (first | (with_reducible first | exact HB.out | apply bwA | apply pwN | apply bw1) | exact HB.out)) hb); have n2_ := Aside0.mk (blk_below (blk_alloc HG2.out _) hb); clear HO HB HG2; have HO := n0_; have HB := n1_; have HG2 := n2_; clear n0_ n1_ n2_; have hm1 : w10.cell? ⟨wr.heap.size, 1, none⟩ = some (.int .i16 y1) := (blk_cell (blk_below (blk_new wr (Obj.cells #[.int .u8 y0, .int .i16 y1] 102 (0, 0))) hb) 1).trans rfl; obtain ⟨Ao19, co19, eo19⟩ := Kd.R_slice ho; subst eo19; have hcv : (convert 106 9 (.slice Ao19 1 co19)).run Try.prog w10 = .ok (.string (strOfNums [y0])) w10 := own_string (P := Try.prog) Try.underlying106 Try.underlying5 Try.underlying9 (Kd.own_of_R ho); clear ho hb hg_ hnew_) | ((with_reducible refine gate_builtin (b := .append) (xs := #[.tmp 16, .tmp 25]) rfl ?_); at_builtin; refine Kd.R_append k81 w.heap.size rfl (.tmp 16) (.tmp 25) 69 81 (.agg #[(.string ⟨#[]⟩), (.int .i64 0)]) 24 rfl Try.underlying69 info81 rfl (by decide) (by omega) u3 ((l0.take kk).map sgPart) (⟨strOfNums [y0], y1⟩ : Pt) [.string (strOfNums [y0]), .int .i64 y1] (fun _ => True) (fun _ => False) rfl rfl ?aP (fun _ hk => hk.elim) ?aF ?aO (Below.refl _ _) ?aS ?aL ?_; (case aP => exact k81_mkM _ _ _ (⟨strOfNums [y0], y1⟩ : Pt)); (case aF => exact (fun _ _ => trivial)); (case aO => exact (by (with_reducible repeat (first | apply Kd.R_alloc | apply Kd.R_drewN | apply Kd.R_drew)); exact HO.out)); (case aS => exact (below_size (by repeat (first | (with_reducible first | exact HB.out | apply bwA | apply pwN | apply bw1) | exact HB.out)))); (case aL => rw [List.length_map, List.length_take]; have := HL0.out; omega); intro v26 w13 ho hb hg hat; have n0_ := Aside0.mk (blk_grown HG2.out hg (Kd.R_ne HO.out HG2.out (by decide))); have n1_ := Aside0.mk (below_weaken (by repeat (first | (with_reducible first | exact HB.out | apply bwA | apply pwN | apply bw1) | exact HB.out)) (Nat.le_refl _) hb); have n2_ := Aside0.mk ho; clear HO HB HG2; have HG2 := n0_; have HB := n1_; have HO := n2_; clear n0_ n1_ n2_ ho hb hg hat) | fail)
   go_roundg (l0.length - (kk + 1))
   case measure => omega
   case rel => exact ⟨kk + 1, by omega, by omega, by go_num, ⟨by rw [HNX.out]; exact (by (with_reducible repeat (first | apply Kd.R_alloc | apply Kd.R_drewN | apply Kd.R_drew)); exact HO.out)⟩, ⟨(by repeat (first | (with_reducible first | exact HB.out | apply bwA | apply pwN | apply bw1) | exact HB.out))⟩, ⟨by (with_reducible repeat (first | refine blk_drewN ?_ _ | refine blk_drew ?_ | refine blk_alloc ?_ _)); exact HG2.out⟩⟩
  ·have hltz : ¬ (kk : Int) < (l0.length : Int) := by omega
   obtain rfl : kk = l0.length := by omega
   rw [List.take_length] at HO
   have hs1 : wr.cell? ⟨w.heap.size, 1, none⟩ = some (.slice A1 l1.length c1) := (blk_cell HG2.out 1).trans rfl
   go_wp2_with fail
   clear hs1
   go_loopg [3, 31] l1.length (fun gg v3 v31 wr => ∃ kk : Nat, kk ≤ l1.length ∧ l1.length - kk ≤ gg ∧ v31 = .int .i64 kk ∧ Aside0 (Kd.R k81 81 wr w.heap.size (fun _ => True) v3 (l0.map sgPart ++ (l1.take kk).map (mnPart l0))) ∧ Aside0 (Below w.heap.size w wr) ∧ Aside0 (wr.heap[w.heap.size]? = some (.cells #[.slice A0 l0.length c0, .slice A1 l1.length c1] 31 (0, 0))))
   case atStart => exact ⟨0, Nat.zero_le _, by omega, rfl, ⟨by rw [List.take_zero, List.map_nil, List.append_nil]; exact HO.out⟩, HB, HG2⟩
   case round =>
    clear HO HB HG2
    obtain ⟨k2, hk2, hg2, rfl, HO, HB, HG2⟩ := hrel
    by_cases hl2 : k2 < l1.length
    ·have hltz : (k2 : Int) < (l1.length : Int) := by omega
     obtain ⟨am, rfl, hcs⟩ := min_cells HR1.out HB.out (by omega)
     have hx0 := (hcs k2 hl2).1
     have hx1 := (hcs k2 hl2).2
     clear hcs
     have HNX := Aside0.mk (take_map_succ (mnPart l0) l1 z104 k2 hl2)
     rw [show l1.getD k2 z104 = p2At l1 k2 from rfl] at HNX
     generalize hy : p2At l1 k2 = y at hx0 hx1 HNX
     clear hy
     obtain ⟨y0, y1⟩ := y
     dsimp only at hx0 hx1
     go_wp2_with fail
     have B7 := Aside0.mk (blk_new wr (.cells #[.int .u8 y0, .int .u8 y1] 104 (0, 0)))
     have HB7 := Aside0.mk (HB.out.alloc HB.out.size (.cells #[.int .u8 y0, .int .u8 y1] 104 (0, 0)))
     have HO7 := Aside0.mk (Kd.R_alloc HO.out (.cells #[.int .u8 y0, .int .u8 y1] 104 (0, 0)))
     have HG7 := Aside0.mk (blk_alloc HG2.out (.cells #[.int .u8 y0, .int .u8 y1] 104 (0, 0)))
     generalize hW : (wr.alloc (Obj.cells #[Value.int .u8 y0, Value.int .u8 y1] 104)) = W7 at B7 HB7 HO7 HG7
     clear hW hx0 hx1 HO HB HG2
     have hm0 : W7.cell? ⟨wr.heap.size, 0, none⟩ = some (.int .u8 y0) := (blk_cell B7.out 0).trans rfl
     have hm1 : W7.cell? ⟨wr.heap.size, 1, none⟩ = some (.int .u8 y1) := (blk_cell B7.out 1).trans rfl
     have hs0 : W7.cell? ⟨w.heap.size, 0, none⟩ = some (.slice A0 l0.length c0) := (blk_cell HG7.out 0).trans rfl
     have hs1 : W7.cell? ⟨w.heap.size, 1, none⟩ = some (.slice (some am) l1.length c1) := (blk_cell HG7.out 1).trans rfl
     have hcv := conv2 hm0 hm1
     have HVA : Aside0 (impl_System_value.f 1001 l0 l1 y1 = some (valS l0 y1)) := ⟨value_eq l1 HW.out.1 (by have := HL0.out; omega) y1 (by have := HL0.out; omega)⟩
     have HVB : Aside0 (impl_System_value.f 1001 l0 l1 y0 = some (valS l0 y0)) := ⟨value_eq l1 HW.out.1 (by have := HL0.out; omega) y0 (by have := HL0.out; omega)⟩
     have hwa := valS_rng HW.out.1 y1
     have hwb := valS_rng HW.out.1 y0
     have HNX2 : Aside0 ((l1.take (k2 + 1)).map (mnPart l0) = (l1.take k2).map (mnPart l0) ++ [(⟨strOfNums [y0, y1], valS l0 y1 - valS l0 y0⟩ : Pt)]) := HNX
     clear HNX
     generalize valS l0 y1 = a at HVA hwa HNX2
     generalize valS l0 y0 = b at HVB hwb HNX2
     have hwr : wrap64 (a - b) = a - b := by unfold wrap64; omega
     clear hwa hwb
     refine start_ (n := 16) (S := fun w' => w'.cell? ⟨w.heap.size, 0, none⟩ = some (.slice A0 l0.length c0) ∧ w'.cell? ⟨w.heap.size, 1, none⟩ = some (.slice (some am) l1.length c1) ∧ w'.cell? ⟨wr.heap.size, 0, none⟩ = some (.int .u8 y0) ∧ w'.cell? ⟨wr.heap.size, 1, none⟩ = some (.int .u8 y1) ∧ (convert 106 9 (.slice (some ⟨wr.heap.size, 0, none⟩) 2 2)).run Try.prog w' = .ok (.string (strOfNums [y0, y1])) w') (ds := [13, 14]) #[false, false, false, false, false, false, false, false, false, false, false, false, false, false, false, false] (by kernel_rfl) rfl rfl ⟨hs0, hs1, hm0, hm1, conv2 hm0 hm1⟩ (fun hHeld => ?_)
     refine with_tabW partsTab.tab10 partsTab.bits10 (fun HT_ HW_ => ?_)
     refine pu_ 0 (some 35) HT_ ?_
     refine pu_ 1 (some 36) HT_ ?_
     refine pu_ 4 (some 39) HT_ ?_
     refine pu_ 8 (some 43) HT_ ?_
     refine tk_ 2 (some 37) HT_ HW_ hHeld rfl (by rintro w' ⟨s0, s1, s2, s3, s4⟩; go_simp; with_reducible rfl) ?_
     refine tk_ 3 (some 38) HT_ HW_ hHeld rfl (by rintro w' ⟨s0, s1, s2, s3, s4⟩; go_simp; with_reducible rfl) ?_
     refine tk_ 5 (some 40) HT_ HW_ hHeld rfl (by rintro w' ⟨s0, s1, s2, s3, s4⟩; go_simp; with_reducible rfl) ?_
     refine tk_ 7 (some 42) HT_ HW_ hHeld rfl (by rintro w' ⟨s0, s1, s2, s3, s4⟩; go_simp; with_reducible rfl) ?_
     refine tk_ 9 (some 44) HT_ HW_ hHeld rfl (by rintro w' ⟨s0, s1, s2, s3, s4⟩; go_simp; with_reducible rfl) ?_
     refine on_ 6 (some 41) HT_ fun K hK => ?_
     refine goes_ Try.func63 (by kernel_rfl) rfl #[.agg #[.slice A0 l0.length c0, .slice (some am) l1.length c1], .int .u8 y1] (by rfl) rfl rfl (by simp only [List.map_toArray, List.map_cons, List.map_nil]; rfl) ?_
     with_reducible refine (impl_System_value.calls 1001 A0 c0 l0 (some am) c1 l1 y1 a _ (Kd.C_below HR0.out (bw1 HB7.out)) HC0.out (Kd.C_below HR1.out (bw1 HB7.out)) HC1.out HVA.out).mono ?_
     rintro e w3 ⟨rfl, hb3⟩
     refine ⟨_, rfl, ?_⟩
     refine hK.out _ _ ⟨cellB_ hb3 (hHeld.1), cellB_ hb3 (hHeld.2.1), cellB_ hb3 (hHeld.2.2.1), cellB_ hb3 (hHeld.2.2.2.1), conv2 (cellB_ hb3 (hHeld.2.2.1)) (cellB_ hb3 (hHeld.2.2.2.1))⟩ (fun hHeld => ?_)
     clear hK K
     refine nm_ (some 41) ?_
     refine on_ 10 (some 45) HT_ fun K hK => ?_
     refine goes_ Try.func63 (by kernel_rfl) rfl #[.agg #[.slice A0 l0.length c0, .slice (some am) l1.length c1], .int .u8 y0] (by rfl) rfl rfl (by simp only [List.map_toArray, List.map_cons, List.map_nil]; rfl) ?_
     with_reducible refine (impl_System_value.calls 1001 A0 c0 l0 (some am) c1 l1 y0 b _ (Kd.C_below HR0.out (below_step (bw1 HB7.out) hb3)) HC0.out (Kd.C_below HR1.out (below_step (bw1 HB7.out) hb3)) HC1.out HVB.out).mono ?_
     rintro e w5 ⟨rfl, hb5⟩
     refine ⟨_, rfl, ?_⟩
     have HB9 := Aside0.mk (below_step (below_step (bw1 HB7.out) hb3) hb5)
     have HO9 := Aside0.mk (Kd.R_below (Kd.R_below (Kd.R_drew HO7.out) hb3) hb5)
     have HG9 := Aside0.mk (blk_below (blk_below (blk_drew HG7.out) hb3) hb5)
     refine hK.out _ _ ⟨cellB_ hb5 (hHeld.1), cellB_ hb5 (hHeld.2.1), cellB_ hb5 (hHeld.2.2.1), cellB_ hb5 (hHeld.2.2.2.1), conv2 (cellB_ hb5 (hHeld.2.2.1)) (cellB_ hb5 (hHeld.2.2.2.1))⟩ (fun hHeld => ?_)
     clear hK K
     refine nm_ (some 45) ?_
     refine pu_ 11 (some 46) HT_ ?_
     refine pu_ 12 (some 47) HT_ ?_
     refine la_ 13 (some 48) HT_ fun K hK => ?_
     refine value_ (w1 := ?_) (v := ?_) (by rfl) rfl ?_ ?_
     rotate_left 2
     ·go_simp
      constructor
      ·rfl
      ·rfl
     refine hK.out _ _ ?_
     clear hK K
     refine nm_ (some 48) ?_
     refine la_ 14 (some 49) HT_ fun K hK => ?_
     refine Kd.R_append_step k81 w.heap.size (by rfl) (.tmp 35) (.tmp 48) 69 81 (.agg #[(.string ⟨#[]⟩), (.int .i64 0)]) 24 rfl Try.underlying69 info81 rfl (by decide) (by omega) u3 (l0.map sgPart ++ (l1.take k2).map (mnPart l0)) (⟨strOfNums [y0, y1], a - b⟩ : Pt) [.string (strOfNums [y0, y1]), .int .i64 (a - b)] (fun _ => True) (fun _ => False) rfl rfl ?aP (fun _ hk => hk.elim) ?aF ?aO (Below.refl _ _) ?aS ?aL ?_
     (case aP => exact k81_mkM _ _ _ (⟨strOfNums [y0, y1], a - b⟩ : Pt))
     (case aF => exact (fun _ _ => trivial))
     (case aO => exact HO9.out)
     (case aS => exact (below_size HB9.out))
     (case aL => rw [List.length_append, List.length_map, List.length_map, List.length_take]; have := HL0.out; have := HL1.out; omega)
     intro v49 w49 ho hb hg hat
     have n0_ := Aside0.mk (blk_grown HG9.out hg (Kd.R_ne HO9.out HG9.out (by decide)))
     have n1_ := Aside0.mk (below_weaken HB9.out (Nat.le_refl _) hb)
     have n2_ := Aside0.mk ho
     clear HO9 HB9 HG9
     have HG9 := n0_
     have HB9 := n1_
     have HO9 := n2_
     clear n0_ n1_ n2_ ho hb hg hat
     refine hK.out _ _ ?_
     clear hK K
     refine nm_ (some 49) ?_
     refine pu_ 15 (some 3) HT_ ?_
     refine done_ (done_of HT_.out (by kernel_rfl)) ?_
     have hl1' := HL1.out
     go_wp2_with fail
     go_roundg (l1.length - (k2 + 1))
     case measure => omega
     case rel => exact ⟨k2 + 1, by omega, by omega, by go_num, ⟨by rw [HNX2.out, ← List.append_assoc]; exact (by (with_reducible repeat (first | apply Kd.R_alloc | apply Kd.R_drewN | apply Kd.R_drew)); exact HO9.out)⟩, ⟨(by repeat (first | (with_reducible first | exact HB9.out | apply bwA | apply pwN | apply bw1) | exact HB9.out))⟩, ⟨by (with_reducible repeat (first | refine blk_drewN ?_ _ | refine blk_drew ?_ | refine blk_alloc ?_ _)); exact HG9.out⟩⟩
    ·have hltz : ¬ (k2 : Int) < (l1.length : Int) := by omega
     obtain rfl : k2 = l1.length := by omega
     rw [List.take_length] at HO
     go_wp2_with fail
     go_ret
     exact ⟨_, rfl, HO.out, HB.out⟩
def impl_System_parts.f (l0_0 : List Sg) (l0_1 : List P2) : Option (List Pt) := if wfSys l0_0 l0_1 ∧ l0_0.length ≤ 1000 ∧ l0_1.length ≤ 1000 then some (partsL l0_0 l0_1) else none
theorem impl_System_parts.calls (A0_0 : Option Addr) (c0_0 : Nat) (l0_0 : List Sg) (A0_1 : Option Addr) (c0_1 : Nat) (l0_1 : List P2) (r : List Pt) (w : World) (hr0_0 : Kd.C k102 w A0_0 l0_0.length l0_0) (hc0_0 : l0_0.length ≤ c0_0) (hr0_1 : Kd.C k104 w A0_1 l0_1.length l0_1) (hc0_1 : l0_1.length ≤ c0_1) (h : impl_System_parts.f l0_0 l0_1 = some r) :
  Calls Try.prog 65 #[.agg #[.slice A0_0 l0_0.length c0_0, .slice A0_1 l0_1.length c0_1]] w fun e w' => ∃ v0_ : Value, e = .returned v0_ ∧ Kd.R k81 81 w' w.heap.size (fun _ => True) v0_ r ∧ Below w.heap.size w w' := by
 unfold impl_System_parts.f at h
 split at h
 ·rename_i hw
  obtain rfl := Option.some.inj h
  exact parts_calls A0_0 A0_1 c0_0 c0_1 l0_0 l0_1 w hr0_0 hc0_0 hr0_1 hc0_1 hw.1 hw.2.1 hw.2.2
 ·cases h
end Go.Proofs.Ytlepbhlbooajmaa.Ext
namespace Go.Proofs.Ytlepbhlbooajmaa.Pure
open Go.RowKit Go.Proofs.Ytlepbhlbooajmaa.Ext Go.Proofs.Ytlepbhlbooajmaa.Q Go.Proofs.YtlepbhlbooajmaaW.PrintWords Go.Proofs.YtlepbhlbooajmaaW.PrintLast Go.Proofs.YtlepbhlbooajmaaW.PrintMore
set_option linter.unusedVariables false
set_option linter.unusedSimpArgs false
structure Sys where
 m : Nat
 T : Nat → ByteArray
 V : Nat → Int
 nx : Nat → Nat → Bool
def Sys.L (s : Sys) (p : Nat) : Int := ((s.T p).size : Int)
structure Sys.ok (s : Sys) : Prop where
 m0 : 1 ≤ s.m
 m1 : s.m ≤ 16
 v0 : ∀ p, p < s.m → 1 ≤ s.V p
 v1 : ∀ p, p < s.m → s.V p ≤ 32767
 l0 : ∀ p, p < s.m → 1 ≤ s.L p
 l1 : ∀ p, p < s.m → s.L p ≤ 2
 all : ∀ p, s.nx s.m p = true
def at2 (out : List (List Int)) (i : Int) (p : Nat) : Int := (out.getD i.toNat []).getD p 0
def lo (a b : Int) : Int := if a < b then a else b
def cS (s : Sys) (out : List (List Int)) (mm : Int) (last : Nat) : Nat → Int
 | 0 => 1000000
 | p + 1 => if s.nx last p = true ∧ s.V p ≤ mm then lo (cS s out mm last p) (s.L p + at2 out (mm - s.V p) p) else cS s out mm last p
def rowS (s : Sys) (out : List (List Int)) (j : Nat) : List Int := (List.range (s.m + 1)).map fun last => if j = 0 then 0 else cS s out j last s.m
def tabS (s : Sys) : Nat → List (List Int)
 | 0 => []
 | j + 1 => tabS s j ++ [rowS s (tabS s j) j]
def valT (s : Sys) (j last : Nat) : Int := (rowS s (tabS s j) j).getD last 0
theorem map_range_getD {n : Nat} (f : Nat → Int) (k : Nat) (h : k < n) : ((List.range n).map f).getD k 0 = f k := by
 rw [List.getD_eq_getElem?_getD, List.getElem?_map, List.getElem?_range h]
 rfl
def nxL (s : Sys) (k : Nat) : List Int := ((List.range s.m).filter (s.nx k)).map fun (q : Nat) => (q : Int)
theorem mem_nxL {s : Sys} {k : Nat} {q : Int} : q ∈ nxL s k ↔ ∃ p : Nat, p < s.m ∧ s.nx k p = true ∧ q = (p : Int) := by
 unfold nxL
 simp only [List.mem_map, List.mem_filter, List.mem_range]
 constructor
 ·rintro ⟨p, ⟨h1, h2⟩, rfl⟩; exact ⟨p, h1, h2, rfl⟩
 ·rintro ⟨p, h1, h2, rfl⟩; exact ⟨p, ⟨h1, h2⟩, rfl⟩
end Go.Proofs.Ytlepbhlbooajmaa.Pure
namespace Go.Proofs.Ytlepbhlbooajmaa.Ext
end Go.Proofs.Ytlepbhlbooajmaa.Ext
namespace Go.Proofs.Ytlepbhlbooajmaa.Q
open Go.Proofs.Ytlepbhlbooajmaa.Ext
open Go.RowKit Go.Proofs.YtlepbhlbooajmaaW.PrintWords Go.Proofs.YtlepbhlbooajmaaW.PrintLast Go.Proofs.YtlepbhlbooajmaaW.PrintMore
attribute [local go_sem] max2_int min2_int max_two min_two max_three min_three max_four min_four
set_option linter.unusedVariables false
set_option linter.unusedSimpArgs false
end Go.Proofs.Ytlepbhlbooajmaa.Q
namespace Go.Proofs.Ytlepbhlbooajmaa.Ext
end Go.Proofs.Ytlepbhlbooajmaa.Ext
namespace Go.Proofs.Ytlepbhlbooajmaa.Q
open Go.Proofs.Ytlepbhlbooajmaa.Ext
open Go.RowKit Go.Proofs.YtlepbhlbooajmaaW.PrintWords Go.Proofs.YtlepbhlbooajmaaW.PrintLast Go.Proofs.YtlepbhlbooajmaaW.PrintMore
attribute [local go_sem] max2_int min2_int max_two min_two max_three min_three max_four min_four
set_option linter.unusedVariables false
set_option linter.unusedSimpArgs false
end Go.Proofs.Ytlepbhlbooajmaa.Q
namespace Go.Proofs.Ytlepbhlbooajmaa.Ext
end Go.Proofs.Ytlepbhlbooajmaa.Ext
namespace Go.Proofs.Ytlepbhlbooajmaa.Q
open Go.Proofs.Ytlepbhlbooajmaa.Ext
open Go.RowKit Go.Proofs.YtlepbhlbooajmaaW.PrintWords Go.Proofs.YtlepbhlbooajmaaW.PrintLast Go.Proofs.YtlepbhlbooajmaaW.PrintMore
attribute [local go_sem] max2_int min2_int max_two min_two max_three min_three max_four min_four
set_option linter.unusedVariables false
set_option linter.unusedSimpArgs false
end Go.Proofs.Ytlepbhlbooajmaa.Q
namespace Go.Proofs.Ytlepbhlbooajmaa.Pure
open Go.RowKit Go.Proofs.Ytlepbhlbooajmaa.Ext Go.Proofs.Ytlepbhlbooajmaa.Q Go.Proofs.YtlepbhlbooajmaaW.PrintWords Go.Proofs.YtlepbhlbooajmaaW.PrintLast Go.Proofs.YtlepbhlbooajmaaW.PrintMore
set_option linter.unusedVariables false
set_option linter.unusedSimpArgs false
abbrev Pc := S108
theorem wsucc (n : Nat) (h : n ≤ 4611686018427387904) : wrap64 ((n : Int) + 1) = ((n + 1 : Nat) : Int) := by unfold wrap64; omega
theorem set_mid {α : Type} (A : List α) (b b' : α) (C : List α) (n : Nat) (h : n = A.length) : (A ++ b :: C).set n b' = A ++ b' :: C := by
 subst h
 rw [List.set_append_right _ _ (Nat.le_refl _), Nat.sub_self]
 rfl
theorem get_left {α : Type} (A C : List α) (d : α) (n : Nat) (h : n < A.length) : (A ++ C).getD n d = A.getD n d := by
 rw [List.getD_eq_getElem?_getD, List.getElem?_append_left h, ← List.getD_eq_getElem?_getD]
structure Imp (s : Sys) (P : List Pt) (X : List (List Int)) : Prop where
 len : P.length = s.m
 txt : ∀ p : Nat, p < s.m → (rd_T81 P (p : Int)).f0 = s.T p
 val : ∀ p : Nat, p < s.m → (rd_T81 P (p : Int)).f1 = s.V p
 nlen : X.length = s.m
 nxt : ∀ k : Nat, k < s.m → X.getD k [] = nxL s k
structure Ref (s : Sys) (P : List Pc) (X : List (List Bool)) : Prop where
 len : P.length = s.m
 txt : ∀ p : Nat, p < s.m → (rd_T108 P (p : Int)).f0 = s.T p
 val : ∀ p : Nat, p < s.m → (rd_T108 P (p : Int)).f1 = s.V p
 nlen : X.length = s.m + 1
 nxl : ∀ k : Nat, k ≤ s.m → (X.getD k []).length = s.m
 nxt : ∀ k p : Nat, k ≤ s.m → p < s.m → rdOf false (X.getD k []) (p : Int) = s.nx k p
end Go.Proofs.Ytlepbhlbooajmaa.Pure
namespace Go.Proofs.Ytlepbhlbooajmaa.Ext
end Go.Proofs.Ytlepbhlbooajmaa.Ext
namespace Go.Proofs.Ytlepbhlbooajmaa.Q
open Go.Proofs.Ytlepbhlbooajmaa.Ext
open Go.RowKit Go.Proofs.YtlepbhlbooajmaaW.PrintWords Go.Proofs.YtlepbhlbooajmaaW.PrintLast Go.Proofs.YtlepbhlbooajmaaW.PrintMore
attribute [local go_sem] max2_int min2_int max_two min_two max_three min_three max_four min_four
set_option linter.unusedVariables false
set_option linter.unusedSimpArgs false
end Go.Proofs.Ytlepbhlbooajmaa.Q
namespace Go.Proofs.Ytlepbhlbooajmaa.Ext
end Go.Proofs.Ytlepbhlbooajmaa.Ext
namespace Go.Proofs.Ytlepbhlbooajmaa.Q
open Go.Proofs.Ytlepbhlbooajmaa.Ext
open Go.RowKit Go.Proofs.YtlepbhlbooajmaaW.PrintWords Go.Proofs.YtlepbhlbooajmaaW.PrintLast Go.Proofs.YtlepbhlbooajmaaW.PrintMore
attribute [local go_sem] max2_int min2_int max_two min_two max_three min_three max_four min_four
set_option linter.unusedVariables false
set_option linter.unusedSimpArgs false
end Go.Proofs.Ytlepbhlbooajmaa.Q
namespace Go.Proofs.Ytlepbhlbooajmaa.Ext
end Go.Proofs.Ytlepbhlbooajmaa.Ext
namespace Go.Proofs.Ytlepbhlbooajmaa.Q
open Go.Proofs.Ytlepbhlbooajmaa.Ext
open Go.RowKit Go.Proofs.YtlepbhlbooajmaaW.PrintWords Go.Proofs.YtlepbhlbooajmaaW.PrintLast Go.Proofs.YtlepbhlbooajmaaW.PrintMore
attribute [local go_sem] max2_int min2_int max_two min_two max_three min_three max_four min_four
set_option linter.unusedVariables false
set_option linter.unusedSimpArgs false
end Go.Proofs.Ytlepbhlbooajmaa.Q
namespace Go.Proofs.Ytlepbhlbooajmaa.Pure
open Go.RowKit Go.Proofs.Ytlepbhlbooajmaa.Ext Go.Proofs.Ytlepbhlbooajmaa.Q Go.Proofs.YtlepbhlbooajmaaW.PrintWords Go.Proofs.YtlepbhlbooajmaaW.PrintLast Go.Proofs.YtlepbhlbooajmaaW.PrintMore
set_option linter.unusedVariables false
set_option linter.unusedSimpArgs false
def noText : ByteArray := (⟨#[]⟩ : ByteArray)
def upd (best text : ByteArray) : ByteArray := if best.toList = ([] : List UInt8) then text else if Op.bytesLess text.toList best.toList = true then text else best
def foldX (g : Nat → ByteArray) (c : Nat → Bool) (l : List Nat) (b : ByteArray) : ByteArray := l.foldl (fun b p => if c p = true then upd b (g p) else b) b
def cand (s : Sys) (n last p : Nat) : Bool := s.nx last p && (decide (s.V p ≤ (n : Int)) && decide (s.L p + valT s ((n : Int) - s.V p).toNat p = valT s n last))
def txt (s : Sys) : Nat → Nat → Nat → ByteArray
 | 0, _, _ => noText
 | f + 1, n, last => if n = 0 then noText else foldX (fun p => s.T p ++ txt s f ((n : Int) - s.V p).toNat p) (cand s n last) (List.range s.m) noText
theorem nxL_all (s : Sys) (ho : s.ok) : nxL s s.m = (List.range s.m).map fun (q : Nat) => (q : Int) := by
 unfold nxL
 rw [List.filter_eq_self.2 (fun p _ => ho.all p)]
end Go.Proofs.Ytlepbhlbooajmaa.Pure
namespace Go.Proofs.Ytlepbhlbooajmaa.Ext
end Go.Proofs.Ytlepbhlbooajmaa.Ext
namespace Go.Proofs.Ytlepbhlbooajmaa.Q
open Go.Proofs.Ytlepbhlbooajmaa.Ext
open Go.RowKit Go.Proofs.YtlepbhlbooajmaaW.PrintWords Go.Proofs.YtlepbhlbooajmaaW.PrintLast Go.Proofs.YtlepbhlbooajmaaW.PrintMore
attribute [local go_sem] max2_int min2_int max_two min_two max_three min_three max_four min_four
set_option linter.unusedVariables false
set_option linter.unusedSimpArgs false
mutual
def spec_l03Pieces.l0 : Nat → List (S108) → Int → List (S102) → List (S104) → Option ((List (S108)))
 | 0, _, _, _, _ => none
 | k + 1, x3, x4, x1000, x1001 => if x4 < (x1000.length : Int) then (if 0 ≤ x4 then (if x3.length < 5864062014805 then (spec_l03Pieces.l0 k (x3 ++ [(⟨strOfNums (([(rd_T102 x1000 x4).f0] : List Int)), wrap64 ((rd_T102 x1000 x4).f1)⟩ : S108)]) (wrap64 (x4 + 1)) x1000 x1001) else (none)) else (none)) else (spec_l03Pieces.l1 k x3 0 x1000 x1001)
def spec_l03Pieces.l1 : Nat → List (S108) → Int → List (S102) → List (S104) → Option ((List (S108)))
 | 0, _, _, _, _ => none
 | k + 1, x3, x5, x1000, x1001 => if x5 < (x1001.length : Int) then (if 0 ≤ x5 then ((spec_l03Value.f k x1000 x1001 ((rd_T104 x1001 x5).f1)).bind fun t162 => ((spec_l03Value.f k x1000 x1001 ((rd_T104 x1001 x5).f0)).bind fun t163 => (if x3.length < 5864062014805 then (spec_l03Pieces.l1 k (x3 ++ [(⟨strOfNums (([(rd_T104 x1001 x5).f0, (rd_T104 x1001 x5).f1] : List Int)), wrap64 (t162 - t163)⟩ : S108)]) (wrap64 (x5 + 1)) x1000 x1001) else (none)))) else (none)) else (some x3)
end
def spec_l03Pieces.f (k : Nat) (E0 : List (S102)) (E1 : List (S104)) : Option ((List (S108))) := spec_l03Pieces.l0 k (([] : List (S108))) 0 E0 E1
def spec_l03Pieces.T5 : Bool × List (List Nat × List Nat) := (true, [([], []), ([], []), ([1], [1]), ([2], [2]), ([3], [3]), ([], []), ([4, 5], [4, 5]), ([6], [6]), ([7], [7]), ([8], [8]), ([9], [9]), ([], []), ([11], [11]), ([12], [12]), ([13], [13]), ([], []), ([14, 15], [14, 15]), ([16], [16]), ([17], [17]), ([18], [18]), ([10, 19], [10, 19]), ([20], [20]), ([0, 21], [0, 21]), ([22, 22, 0, 1, 2, 3, 4, 5, 6, 7, 8, 9, 10, 11, 12, 13, 14, 15, 16, 17, 18, 19, 20, 21, 22], [0, 22])])
def spec_l03Pieces.B5 : List Nat := [0, 0, 2, 6, 14, 0, 62, 126, 254, 510, 1022, 0, 2048, 6144, 14336, 0, 63488, 129024, 260096, 522240, 1048574, 2097150, 4194303, 8388607]
theorem spec_l03Pieces.tab5 : rtab .any (opsOf Try.f25 5) = spec_l03Pieces.T5 := by kernel_rfl
theorem spec_l03Pieces.bits5 : waitsOk spec_l03Pieces.T5.2 spec_l03Pieces.B5 = true := by kernel_rfl
def spec_l03Pieces.T11 : Bool × List (List Nat × List Nat) := (true, [([], []), ([], []), ([], []), ([1, 2], [1, 2]), ([3], [3]), ([], []), ([], []), ([5, 6], [5, 6]), ([], []), ([], []), ([8, 9, 7], [8, 9]), ([7, 10], [7, 10]), ([4, 11], [4, 11]), ([12], [12]), ([0, 13, 10], [0, 13]), ([14, 14, 0, 1, 2, 3, 4, 5, 6, 7, 8, 9, 10, 11, 12, 13, 14], [0, 14])])
def spec_l03Pieces.B11 : List Nat := [0, 0, 0, 6, 14, 0, 0, 96, 0, 0, 992, 2016, 4094, 8190, 16383, 32767]
theorem spec_l03Pieces.tab11 : rtab .any (opsOf Try.f25 11) = spec_l03Pieces.T11 := by kernel_rfl
theorem spec_l03Pieces.bits11 : waitsOk spec_l03Pieces.T11.2 spec_l03Pieces.B11 = true := by kernel_rfl
set_option maxHeartbeats 8000000 in
set_option maxRecDepth 100000 in
theorem spec_l03Pieces.calls (k : Nat) (g : Nat) (E0 : List (S102)) (E1 : List (S104)) (r : List (S108)) (w0 w : World) (hI : IsS31 w0 w g E0 E1) (hB : Below w0.heap.size w0 w) (h : spec_l03Pieces.f k E0 E1 = some r) :
  Calls Try.prog 25 #[.pointer (some ⟨g, 0, none⟩)] w fun e w' => ∃ v0_ : Value, e = .returned (v0_) ∧ Kd.R k108 108 w' w.heap.size (fun _ => True) v0_ r ∧ IsS31 w0 w' g E0 E1 ∧ Below w0.heap.size w0 w' ∧ KeepBut w w' g none := by
 have hu108 := Try.underlying108
 have HI0 := Aside0.mk hI
 have HK := Aside0.mk (KeepBut.refl w g none)
 have HL := Aside0.mk hB.size
 clear hI
 have HW0 := Aside0.mk hB.size
 have HB := Aside0.mk hB
 clear hB
 have H : (spec_l03Pieces.l0 k (([] : List (S108))) 0 E0 E1) = some r := h
 clear h
 obtain ⟨y146, hy146⟩ : ∃ y_ : List (S108), y_ = (([] : List (S108))) := ⟨_, rfl⟩
 replace H : (spec_l03Pieces.l0 k y146 0 E0 E1) = some r := by first | (rw [hy146]; with_reducible exact H) | (have H2_ := (Option.bind_some _ _).symm.trans H; rw [hy146]; with_reducible exact H2_) | (have H2_ := (Option.bind_some _ _).symm.trans H; with_reducible exact H2_) | with_reducible exact H | (rw [hy146]; exact H) | exact H
 have Ny146 := Aside0.mk hy146
 clear hy146
 have H' := Aside0.mk H
 clear H
 go_enter Try.func25, Try.ntmps25
 go_wp2_with (first | ((with_reducible refine gate_dst (N := 8) rfl ?_); refine Kd.R_lit k108 _ 108 ?hg (N := 8) ?hd (xs := ([] : List (S108))) (inner := []) (ok := fun _ => True) (okp := fun _ => True) ?hr ?hp (fun _ hk => hk) trivial (Below.refl _ _) (Nat.le_refl _) (by simp) ?_; (case hd => rfl); (case hg => rfl); (case hr => first | (go_simp; done) | (go_simp; rfl)); (case hp => exact (Reps.none _ _)); intro v147 w2 ho3 hb hg_ hnew_; clear hg_ hnew_; (first | rw [← Ny146.out] at ho3 | (simp only [Int.reduceToNat] at ho3; rw [← Ny146.out] at ho3)); have n0_ := Aside0.mk (Kd.R_lower ho3 (keep_size (w := w) (g := g) (row := none) (by repeat (first | (with_reducible first | exact HK.out | apply KeepBut.set_ | apply keep_drewN | apply keep_drew | apply keep_alloc) | exact HK.out)))); have n1_ := Aside0.mk (IsS31.below (by repeat (first | (with_reducible first | exact HI0.out | apply IsS31.alloc | apply IsS31.drewN | apply IsS31.drew) | exact HI0.out)) hb); have n2_ := Aside0.mk (KeepBut.trans (by repeat (first | (with_reducible first | exact HK.out | apply KeepBut.set_ | apply keep_drewN | apply keep_drew | apply keep_alloc) | exact HK.out)) (KeepBut.of_below hb g none) (.inl rfl)); have n3_ := Aside0.mk (below_step (by repeat (first | (with_reducible first | exact HB.out | apply bwA | apply pwN | apply bw1 | refine below_set ?_ (IsS31.ge HI0.out)) | exact HB.out)) hb); clear HI0; clear HK; clear HB; have HO148 := n0_; have HI0 := n1_; have HK := n2_; have HB := n3_; clear n0_ n1_ n2_ n3_; clear hb ho3))
 go_loopg [3, 4] k (fun kq v3 v4 w' => ∃ (x3_1 : List (S108)) (x4_1 : Int), v4 = .int .i64 x4_1 ∧ Aside0 (spec_l03Pieces.l0 kq x3_1 x4_1 E0 E1 = some r) ∧ Aside0 (kq ≤ k) ∧ Aside0 (Kd.R k108 108 w' w.heap.size (fun _ => True) v3 x3_1) ∧ Aside0 (IsS31 w0 w' g E0 E1) ∧ Aside0 (KeepBut w w' g none) ∧ Aside0 (Below w0.heap.size w0 w'))
 case atStart => exact ⟨(y146), (0), (by first | rfl | (simp; done) | (simp [*]; done)), H', ⟨Nat.le_refl _⟩, ⟨by (with_reducible repeat (first | apply Kd.R_alloc | apply Kd.R_drewN | apply Kd.R_drew)); exact HO148.out⟩, ⟨by repeat (first | (with_reducible first | exact HI0.out | apply IsS31.alloc | apply IsS31.drewN | apply IsS31.drew) | exact HI0.out)⟩, ⟨by repeat (first | (with_reducible first | exact HK.out | apply KeepBut.set_ | apply keep_drewN | apply keep_drew | apply keep_alloc) | exact HK.out)⟩, ⟨by repeat (first | (with_reducible first | exact HB.out | apply bwA | apply pwN | apply bw1 | refine below_set ?_ (IsS31.ge HI0.out)) | exact HB.out)⟩⟩
 case round =>
  clear H'
  try clear c2
  try clear p2
  obtain ⟨x3_1, x4_1, rfl, HA, HK1, HO_3, HI0, HK, HB⟩ := hrel
  cases gk with
  | zero => exact absurd HA.out (by simp [spec_l03Pieces.l0])
  | succ k1 =>
   have H := HA.out
   clear HA
   simp only [spec_l03Pieces.l0] at H
   by_cases c4 : x4_1 < (E0.length : Int)
   ·rw [if_pos c4] at H
    have c4b0 : decide (x4_1 < (E0.length : Int)) = true := decide_eq_true c4
    clear c4
    by_cases c5 : 0 ≤ x4_1
    ·rw [if_pos c5] at H
     have c5b0 : decide (0 ≤ x4_1) = true := decide_eq_true c5
     clear c5
     obtain ⟨y150, hy150⟩ : ∃ y_ : List Int, y_ = (([(rd_T102 E0 x4_1).f0] : List Int)) := ⟨_, rfl⟩
     replace H : (if x3_1.length < 5864062014805 then (spec_l03Pieces.l0 k1 (x3_1 ++ [(⟨strOfNums y150, wrap64 ((rd_T102 E0 x4_1).f1)⟩ : S108)]) (wrap64 (x4_1 + 1)) E0 E1) else (none)) = some r := by first | (rw [hy150]; with_reducible exact H) | (have H2_ := (Option.bind_some _ _).symm.trans H; rw [hy150]; with_reducible exact H2_) | (have H2_ := (Option.bind_some _ _).symm.trans H; with_reducible exact H2_) | with_reducible exact H | (rw [hy150]; exact H) | exact H
     have Ny150 := Aside0.mk hy150
     clear hy150
     by_cases c6 : x3_1.length < 5864062014805
     ·rw [if_pos c6] at H
      have LMc6 := Aside0.mk c6
      clear c6
      obtain ⟨y154, hy154⟩ : ∃ y_ : List (S108), y_ = (x3_1 ++ [(⟨strOfNums y150, wrap64 ((rd_T102 E0 x4_1).f1)⟩ : S108)]) := ⟨_, rfl⟩
      replace H : (spec_l03Pieces.l0 k1 y154 (wrap64 (x4_1 + 1)) E0 E1) = some r := by first | (rw [hy154]; with_reducible exact H) | (have H2_ := (Option.bind_some _ _).symm.trans H; rw [hy154]; with_reducible exact H2_) | (have H2_ := (Option.bind_some _ _).symm.trans H; with_reducible exact H2_) | with_reducible exact H | (rw [hy154]; exact H) | exact H
      have Ny154 := Aside0.mk hy154
      clear hy154
      have H' := Aside0.mk H
      clear H
      obtain ⟨ASz7_0, cSz7_0, ASz7_1, cSz7_1, HGz7, hgz7, HSz7_0, HSz7_1⟩ := HI0.out
      have hcz7_0 := cellS31_0 HGz7
      have hcz7_1 := cellS31_1 HGz7
      clear HGz7 hgz7
      try go_wp2
      have n0_ := Aside0.mk (Kd.R_drew HO_3.out)
      have n1_ := Aside0.mk (IsS31.drew HI0.out)
      have n2_ := Aside0.mk (keep_drew HK.out)
      have n3_ := Aside0.mk (bw1 HB.out)
      clear HO_3
      clear HI0
      clear HK
      clear HB
      have HO_3 := n0_
      have HI0 := n1_
      have HK := n2_
      have HB := n3_
      clear n0_ n1_ n2_ n3_
      obtain ⟨ASz9_0, cSz9_0, ASz9_1, cSz9_1, HGz9, hgz9, HSz9_0, HSz9_1⟩ := HI0.out
      have hcz9_0 := cellS31_0 HGz9
      have hcz9_1 := cellS31_1 HGz9
      have HZ9 := Aside0.mk HGz9
      clear HGz9 hgz9
      have p149 : 0 ≤ (x4_1 : Int) := of_decide_eq_true (by first | (with_reducible assumption) | assumption)
      have q149 : x4_1 < (E0.length : Int) := of_decide_eq_true (by first | (with_reducible assumption) | assumption)
      obtain ⟨ad149, e149, hx149_0, hx149_1⟩ := at_T102 HSz9_0 x4_1 p149 q149
      have hw149_1 := hx149_1
      have hw149_0 := hx149_0
      cases e149
      replace hx149_0 := pw_cell_below HB.out hx149_0
      replace hx149_1 := pw_cell_below HB.out hx149_1
      replace p149 := eq_true p149
      replace q149 := eq_true q149
      have p153 : 0 ≤ (x4_1 : Int) := of_decide_eq_true (by first | (with_reducible assumption) | assumption)
      have q153 : x4_1 < (E0.length : Int) := of_decide_eq_true (by first | (with_reducible assumption) | assumption)
      obtain ⟨ad153, e153, hx153_0, hx153_1⟩ := at_T102 HSz9_0 x4_1 p153 q153
      have hw153_1 := hx153_1
      have hw153_0 := hx153_0
      obtain rfl : ad149 = ad153 := (by injection e153)
      replace hx153_0 := pw_cell_below HB.out hx153_0
      replace hx153_1 := pw_cell_below HB.out hx153_1
      replace p153 := eq_true p153
      replace q153 := eq_true q153
      refine start_ (n := 24) (S := fun w' => w'.cell? ⟨g, 0, none⟩ = some (.slice (some ad149) E0.length cSz9_0) ∧ w'.cell? ⟨g, 1, none⟩ = some (.slice ASz9_1 E1.length cSz9_1) ∧ w'.cell? (ad149.add ((x4_1).toNat * 2)) = some (.int .u8 ((rd_T102 E0 x4_1).f0)) ∧ w'.cell? ⟨(ad149.add ((x4_1).toNat * 2)).block, (ad149.add ((x4_1).toNat * 2)).off + 1, none⟩ = some (.int .i16 ((rd_T102 E0 x4_1).f1)) ∧ w'.cell? (ad149.add ((x4_1).toNat * 2)) = some (.int .u8 ((rd_T102 E0 x4_1).f0)) ∧ w'.cell? ⟨(ad149.add ((x4_1).toNat * 2)).block, (ad149.add ((x4_1).toNat * 2)).off + 1, none⟩ = some (.int .i16 ((rd_T102 E0 x4_1).f1))) (ds := []) #[false, false, false, false, false, false, false, false, false, false, false, false, false, false, false, false, false, false, false, false, false, false, false, false] (by kernel_rfl) rfl rfl ⟨hcz9_0, hcz9_1, (pw_cell_below HB.out hw149_0), (pw_cell_below HB.out hw149_1), (pw_cell_below HB.out hw153_0), (pw_cell_below HB.out hw153_1)⟩ (fun hHeld => ?_); refine with_tabW spec_l03Pieces.tab5 spec_l03Pieces.bits5 (fun HT_ HW_ => ?_)
      generalize wr.drew = w8 at HZ9 HO_3 HI0 HK HB hx149_0 hx149_1 hx153_0 hx153_1 hHeld ⊢
      refine pu_ 0 (some 18) HT_ ?_
      refine pu_ 1 (some 19) HT_ ?_
      refine pu_ 2 (some 20) HT_ ?_
      refine pu_ 3 (some 21) HT_ ?_
      refine pu_ 5 (some 23) HT_ ?_
      refine pu_ 11 (some 29) HT_ ?_
      refine pu_ 12 (some 30) HT_ ?_
      refine pu_ 13 (some 31) HT_ ?_
      refine pu_ 15 (some 33) HT_ ?_
      refine tk_ 4 (some 22) HT_ HW_ hHeld rfl (by rintro w' ⟨s0, s1, s2, s3, s4, s5⟩; go_simp; with_reducible rfl) ?_
      refine pu_ 6 (some 24) HT_ ?_
      refine pu_ 7 (some 25) HT_ ?_
      refine tk_ 8 (some 26) HT_ HW_ hHeld rfl (by rintro w' ⟨s0, s1, s2, s3, s4, s5⟩; go_simp; with_reducible rfl) ?_
      refine tk_ 14 (some 32) HT_ HW_ hHeld rfl (by rintro w' ⟨s0, s1, s2, s3, s4, s5⟩; go_simp; with_reducible rfl) ?_
      refine pu_ 16 (some 34) HT_ ?_
      refine pu_ 17 (some 35) HT_ ?_
      refine tk_ 18 (some 36) HT_ HW_ hHeld rfl (by rintro w' ⟨s0, s1, s2, s3, s4, s5⟩; go_simp; with_reducible rfl) ?_
      refine pu_ 19 (some 37) HT_ ?_
      refine on_ 9 (some 27) HT_ fun K hK => ?_
      refine Kd.R_lit_step (Kd.int .u8) _ 5 ?hg (N := 27) ?hd (xs := ([(rd_T102 E0 x4_1).f0] : List Int)) (inner := [.int .u8 ((rd_T102 E0 x4_1).f0)]) (ok := fun _ => True) (okp := fun _ => True) ?hr ?hp (fun _ hk => hk) trivial (Below.refl _ _) (Nat.le_refl _) (by simp) ?_; (case hd => rfl); (case hg => rfl); (case hr => first | (go_simp; done) | (go_simp; rfl)); (case hp => exact (Reps.one (show Kd.M (Kd.int .u8) _ _ _ ((rd_T102 E0 x4_1).f0) [.int .u8 ((rd_T102 E0 x4_1).f0)] from rfl) (Reps.none _ _)))
      intro v151 w10 ho11 hb hg_ hnew_
      clear hg_ hnew_
      (first | rw [← Ny150.out] at ho11 | (simp only [Int.reduceToNat] at ho11; rw [← Ny150.out] at ho11))
      have n0_ := Aside0.mk (Kd.R_below (by (with_reducible repeat (first | apply Kd.R_alloc | apply Kd.R_drewN | apply Kd.R_drew)); exact HO_3.out) hb)
      have n1_ := Aside0.mk (Kd.R_lower ho11 (keep_size (w := w) (g := g) (row := none) (by repeat (first | (with_reducible first | exact HK.out | apply KeepBut.set_ | apply keep_drewN | apply keep_drew | apply keep_alloc) | exact HK.out))))
      replace HZ9 := Aside0.mk (blk_below (by (with_reducible repeat (first | refine blk_drewN ?_ _ | refine blk_drew ?_ | refine blk_alloc ?_ _)); exact HZ9.out) hb)
      have n2_ := Aside0.mk (IsS31.below (by repeat (first | (with_reducible first | exact HI0.out | apply IsS31.alloc | apply IsS31.drewN | apply IsS31.drew) | exact HI0.out)) hb)
      have n3_ := Aside0.mk (KeepBut.trans (by repeat (first | (with_reducible first | exact HK.out | apply KeepBut.set_ | apply keep_drewN | apply keep_drew | apply keep_alloc) | exact HK.out)) (KeepBut.of_below hb g none) (.inl rfl))
      have n4_ := Aside0.mk (below_step (by repeat (first | (with_reducible first | exact HB.out | apply bwA | apply pwN | apply bw1 | refine below_set ?_ (IsS31.ge HI0.out)) | exact HB.out)) hb)
      clear HO_3
      clear HI0
      clear HK
      clear HB
      have HO_3 := n0_
      have HO152 := n1_
      have HI0 := n2_
      have HK := n3_
      have HB := n4_
      clear n0_ n1_ n2_ n3_ n4_
      clear hb ho11
      refine hK.out _ _ ⟨(cellS31_0 HZ9.out), (cellS31_1 HZ9.out), (pw_cell_below HB.out hw149_0), (pw_cell_below HB.out hw149_1), (pw_cell_below HB.out hw153_0), (pw_cell_below HB.out hw153_1)⟩ (fun hHeld => ?_)
      clear hK K
      refine nm_ (some 27) ?_
      refine on_ 10 (some 28) HT_ fun K hK => ?_
      have hcv12 := own_string (P := Try.prog) Try.underlying106 Try.underlying5 Try.underlying9 (Kd.own_of_R HO152.out)
      refine value_ (w1 := ?_) (v := ?_) (by rfl) rfl ?_ ?_
      rotate_left 2
      ·go_simp
       constructor
       ·rfl
       ·rfl
      clear hcv12
      refine hK.out _ _ ⟨(cellS31_0 HZ9.out), (cellS31_1 HZ9.out), (pw_cell_below HB.out hw149_0), (pw_cell_below HB.out hw149_1), (pw_cell_below HB.out hw153_0), (pw_cell_below HB.out hw153_1)⟩ (fun hHeld => ?_)
      clear hK K
      refine nm_ (some 28) ?_
      refine pu_ 20 (some 38) HT_ ?_
      refine on_ 21 (some 39) HT_ fun K hK => ?_
      refine value_ (w1 := ?_) (v := ?_) (by rfl) rfl ?_ ?_
      rotate_left 2
      ·go_simp
       constructor
       ·rfl
       ·rfl
      refine hK.out _ _ ⟨(World.cell?_alloc_lt _ _ _ (World.block_lt_of_cell? _ _ ((cellS31_0 HZ9.out)))).trans ((cellS31_0 HZ9.out)), (World.cell?_alloc_lt _ _ _ (World.block_lt_of_cell? _ _ ((cellS31_1 HZ9.out)))).trans ((cellS31_1 HZ9.out)), (World.cell?_alloc_lt _ _ _ (World.block_lt_of_cell? _ _ ((pw_cell_below HB.out hw149_0)))).trans ((pw_cell_below HB.out hw149_0)), (World.cell?_alloc_lt _ _ _ (World.block_lt_of_cell? _ _ ((pw_cell_below HB.out hw149_1)))).trans ((pw_cell_below HB.out hw149_1)), (World.cell?_alloc_lt _ _ _ (World.block_lt_of_cell? _ _ ((pw_cell_below HB.out hw153_0)))).trans ((pw_cell_below HB.out hw153_0)), (World.cell?_alloc_lt _ _ _ (World.block_lt_of_cell? _ _ ((pw_cell_below HB.out hw153_1)))).trans ((pw_cell_below HB.out hw153_1))⟩ (fun hHeld => ?_)
      clear hK K
      refine nm_ (some 39) ?_
      refine on_ 22 (some 40) HT_ fun K hK => ?_
      refine Kd.R_append_step k108 w.heap.size (by rfl) (.tmp 18) (.tmp 39) 58 108 (.agg #[(.string ⟨#[]⟩), (.int .i64 0)]) 24 rfl Try.underlying58 info108 rfl (by decide) (by omega) u3 x3_1 (⟨strOfNums y150, wrap64 ((rd_T102 E0 x4_1).f1)⟩ : S108) [.string (strOfNums y150), .int .i64 (wrap64 ((rd_T102 E0 x4_1).f1))] (fun _ => True) (fun _ => False) rfl rfl ?aP (fun _ hk => hk.elim) ?aF ?aO (Below.refl _ _) ?aS ?aL ?_
      (case aP => exact k108_mkM _ _ _ (⟨strOfNums y150, wrap64 ((rd_T102 E0 x4_1).f1)⟩ : S108))
      (case aF => exact (fun _ _ => trivial))
      (case aO => exact (by (with_reducible repeat (first | apply Kd.R_alloc | apply Kd.R_drewN | apply Kd.R_drew)); exact HO_3.out))
      (case aS => exact (keep_size (w := w) (g := g) (row := none) (by repeat (first | (with_reducible first | exact HK.out | apply KeepBut.set_ | apply keep_drewN | apply keep_drew | apply keep_alloc) | exact HK.out))))
      (case aL => have := LMc6.out; omega)
      intro v155 w13 ho hb hg hat
      rw [← Ny154.out] at ho
      replace HZ9 := Aside0.mk (blk_grown (by (with_reducible repeat (first | refine blk_drewN ?_ _ | refine blk_drew ?_ | refine blk_alloc ?_ _)); exact HZ9.out) hg (IsS31.own_ne HI0.out HO_3.out (by decide)))
      have n0_ := Aside0.mk (IsS31.grown (by repeat (first | (with_reducible first | exact HI0.out | apply IsS31.alloc | apply IsS31.drewN | apply IsS31.drew) | exact HI0.out)) hg (IsS31.own_ne HI0.out HO_3.out (by decide)))
      have n1_ := Aside0.mk (Kd.R_over' (by (with_reducible repeat (first | apply Kd.R_alloc | apply Kd.R_drewN | apply Kd.R_drew)); exact HO152.out) (Kd.R_typed (by (with_reducible repeat (first | apply Kd.R_alloc | apply Kd.R_drewN | apply Kd.R_drew)); exact HO_3.out)) (by decide) hg)
      have n2_ := Aside0.mk (below_weaken (by repeat (first | (with_reducible first | exact HB.out | apply bwA | apply pwN | apply bw1 | refine below_set ?_ (IsS31.ge HI0.out)) | exact HB.out)) HL.out hb)
      have n3_ := Aside0.mk (KeepBut.trans (by repeat (first | (with_reducible first | exact HK.out | apply KeepBut.set_ | apply keep_drewN | apply keep_drew | apply keep_alloc) | exact HK.out)) (KeepBut.of_grown hg g) (Kd.R_base2 HO_3.out))
      have n4_ := Aside0.mk (ho)
      clear HI0
      clear HO152
      clear HB
      clear HK
      clear HO_3
      have HI0 := n0_
      have HO152 := n1_
      have HB := n2_
      have HK := n3_
      have HO156 := n4_
      clear n0_ n1_ n2_ n3_ n4_
      clear ho hb hg hat
      refine hK.out _ _ ⟨(cellS31_0 HZ9.out), (cellS31_1 HZ9.out), (pw_cell_below HB.out hw149_0), (pw_cell_below HB.out hw149_1), (pw_cell_below HB.out hw153_0), (pw_cell_below HB.out hw153_1)⟩ (fun hHeld => ?_)
      clear hK K
      refine nm_ (some 40) ?_
      refine pu_ 23 (some 3) HT_ ?_
      refine done_ (done_of HT_.out (by kernel_rfl)) ?_
      try go_wp2
      go_roundg k1
      case measure => have := HK1.out; omega
      case rel => exact ⟨(y154), (wrap64 (x4_1 + 1)), (by first | rfl | (simp; done) | (simp [*]; done)), H', ⟨by have := HK1.out; omega⟩, ⟨by (with_reducible repeat (first | apply Kd.R_alloc | apply Kd.R_drewN | apply Kd.R_drew)); exact HO156.out⟩, ⟨by repeat (first | (with_reducible first | exact HI0.out | apply IsS31.alloc | apply IsS31.drewN | apply IsS31.drew) | exact HI0.out)⟩, ⟨by repeat (first | (with_reducible first | exact HK.out | apply KeepBut.set_ | apply keep_drewN | apply keep_drew | apply keep_alloc) | exact HK.out)⟩, ⟨by repeat (first | (with_reducible first | exact HB.out | apply bwA | apply pwN | apply bw1 | refine below_set ?_ (IsS31.ge HI0.out)) | exact HB.out)⟩⟩
     ·rw [if_neg c6] at H
      exact absurd H (by simp)
    ·rw [if_neg c5] at H
     exact absurd H (by simp)
   ·rw [if_neg c4] at H
    have c4b0 : decide (x4_1 < (E0.length : Int)) = false := decide_eq_false c4
    clear c4
    have H' := Aside0.mk H
    clear H
    obtain ⟨ASz14_0, cSz14_0, ASz14_1, cSz14_1, HGz14, hgz14, HSz14_0, HSz14_1⟩ := HI0.out
    have hcz14_0 := cellS31_0 HGz14
    have hcz14_1 := cellS31_1 HGz14
    clear HGz14 hgz14
    go_wp2
    go_loopg [3, 5] k1 (fun kq v3 v5 w' => ∃ (x3_2 : List (S108)) (x5_2 : Int), v5 = .int .i64 x5_2 ∧ Aside0 (spec_l03Pieces.l1 kq x3_2 x5_2 E0 E1 = some r) ∧ Aside0 (kq ≤ k1) ∧ Aside0 (Kd.R k108 108 w' w.heap.size (fun _ => True) v3 x3_2) ∧ Aside0 (IsS31 w0 w' g E0 E1) ∧ Aside0 (KeepBut w w' g none) ∧ Aside0 (Below w0.heap.size w0 w'))
    case atStart => exact ⟨(x3_1), (0), (by first | rfl | (simp; done) | (simp [*]; done)), H', ⟨Nat.le_refl _⟩, ⟨by (with_reducible repeat (first | apply Kd.R_alloc | apply Kd.R_drewN | apply Kd.R_drew)); exact HO_3.out⟩, ⟨by repeat (first | (with_reducible first | exact HI0.out | apply IsS31.alloc | apply IsS31.drewN | apply IsS31.drew) | exact HI0.out)⟩, ⟨by repeat (first | (with_reducible first | exact HK.out | apply KeepBut.set_ | apply keep_drewN | apply keep_drew | apply keep_alloc) | exact HK.out)⟩, ⟨by repeat (first | (with_reducible first | exact HB.out | apply bwA | apply pwN | apply bw1 | refine below_set ?_ (IsS31.ge HI0.out)) | exact HB.out)⟩⟩
    case round =>
     clear H'
     try clear p1
     try clear q1
     try clear hx1
     try clear hcv1
     try clear c2
     try clear p2
     try clear c4
     try clear c4b0
     try clear c5
     try clear c5b0
     try clear c6
     try clear p6
     try clear hcv12
     try clear p14
     try clear q14
     try clear hx14
     try clear hcz14_0
     try clear hcz14_1
     try clear hcz7_0
     try clear hcz7_1
     try clear hcz9_0
     try clear hcz9_1
     try clear hx149_0
     try clear hx149_1
     try clear hx153_0
     try clear hx153_1
     try clear p149
     try clear p153
     try clear p2
     try clear q149
     try clear q153
     obtain ⟨x3_2, x5_2, rfl, HA, HK2, HO_3, HI0, HK, HB⟩ := hrel
     cases gk with
     | zero => exact absurd HA.out (by simp [spec_l03Pieces.l1])
     | succ k2 =>
      have H := HA.out
      clear HA
      simp only [spec_l03Pieces.l1] at H
      by_cases c15 : x5_2 < (E1.length : Int)
      ·rw [if_pos c15] at H
       have c15b0 : decide (x5_2 < (E1.length : Int)) = true := decide_eq_true c15
       clear c15
       by_cases c16 : 0 ≤ x5_2
       ·rw [if_pos c16] at H
        have c16b0 : decide (0 ≤ x5_2) = true := decide_eq_true c16
        clear c16
        obtain ⟨y159, hy159⟩ : ∃ y_ : List Int, y_ = (([(rd_T104 E1 x5_2).f0, (rd_T104 E1 x5_2).f1] : List Int)) := ⟨_, rfl⟩
        replace H : ((spec_l03Value.f k2 E0 E1 ((rd_T104 E1 x5_2).f1)).bind fun t162 => ((spec_l03Value.f k2 E0 E1 ((rd_T104 E1 x5_2).f0)).bind fun t163 => (if x3_2.length < 5864062014805 then (spec_l03Pieces.l1 k2 (x3_2 ++ [(⟨strOfNums y159, wrap64 (t162 - t163)⟩ : S108)]) (wrap64 (x5_2 + 1)) E0 E1) else (none)))) = some r := by first | (rw [hy159]; with_reducible exact H) | (have H2_ := (Option.bind_some _ _).symm.trans H; rw [hy159]; with_reducible exact H2_) | (have H2_ := (Option.bind_some _ _).symm.trans H; with_reducible exact H2_) | with_reducible exact H | (rw [hy159]; exact H) | exact H
        have Ny159 := Aside0.mk hy159
        clear hy159
        replace H := Option.bind_eq_some_iff.mp H
        obtain ⟨t162, A170, H⟩ := H
        (try dsimp only at H)
        have A17 := Aside0.mk A170
        clear A170
        replace H := Option.bind_eq_some_iff.mp H
        obtain ⟨t163, A180, H⟩ := H
        (try dsimp only at H)
        have A18 := Aside0.mk A180
        clear A180
        by_cases c19 : x3_2.length < 5864062014805
        ·rw [if_pos c19] at H
         have LMc19 := Aside0.mk c19
         clear c19
         obtain ⟨y164, hy164⟩ : ∃ y_ : List (S108), y_ = (x3_2 ++ [(⟨strOfNums y159, wrap64 (t162 - t163)⟩ : S108)]) := ⟨_, rfl⟩
         replace H : (spec_l03Pieces.l1 k2 y164 (wrap64 (x5_2 + 1)) E0 E1) = some r := by first | (rw [hy164]; with_reducible exact H) | (have H2_ := (Option.bind_some _ _).symm.trans H; rw [hy164]; with_reducible exact H2_) | (have H2_ := (Option.bind_some _ _).symm.trans H; with_reducible exact H2_) | with_reducible exact H | (rw [hy164]; exact H) | exact H
         have Ny164 := Aside0.mk hy164
         clear hy164
         have H' := Aside0.mk H
         clear H
         obtain ⟨ASz20_0, cSz20_0, ASz20_1, cSz20_1, HGz20, hgz20, HSz20_0, HSz20_1⟩ := HI0.out
         have hcz20_0 := cellS31_0 HGz20
         have hcz20_1 := cellS31_1 HGz20
         clear HGz20 hgz20
         have p157 : 0 ≤ (x5_2 : Int) := of_decide_eq_true (by first | (with_reducible assumption) | assumption)
         have q157 : x5_2 < (E1.length : Int) := of_decide_eq_true (by first | (with_reducible assumption) | assumption)
         obtain ⟨ad157, e157, hx157_0, hx157_1⟩ := at_T104 HSz20_1 x5_2 p157 q157
         cases e157
         replace hx157_0 := pw_cell_below HB.out hx157_0
         replace hx157_1 := pw_cell_below HB.out hx157_1
         replace p157 := eq_true p157
         replace q157 := eq_true q157
         have p158 : 0 ≤ (x5_2 : Int) := of_decide_eq_true (by first | (with_reducible assumption) | assumption)
         have q158 : x5_2 < (E1.length : Int) := of_decide_eq_true (by first | (with_reducible assumption) | assumption)
         obtain ⟨ad158, e158, hx158_0, hx158_1⟩ := at_T104 HSz20_1 x5_2 p158 q158
         obtain rfl : ad157 = ad158 := (by injection e158)
         replace hx158_0 := pw_cell_below HB.out hx158_0
         replace hx158_1 := pw_cell_below HB.out hx158_1
         replace p158 := eq_true p158
         replace q158 := eq_true q158
         obtain ⟨Ao21, co21, eo21⟩ := Kd.R_slice HO_3.out
         subst eo21
         try go_wp2
         have n0_ := Aside0.mk (Kd.R_drew HO_3.out)
         have n1_ := Aside0.mk (IsS31.drew HI0.out)
         have n2_ := Aside0.mk (keep_drew HK.out)
         have n3_ := Aside0.mk (bw1 HB.out)
         clear HO_3
         clear HI0
         clear HK
         clear HB
         have HO_3 := n0_
         have HI0 := n1_
         have HK := n2_
         have HB := n3_
         clear n0_ n1_ n2_ n3_
         refine start_ (n := 16) (S := fun w' => True) (ds := []) #[false, false, false, false, false, false, false, false, false, false, false, false, false, false, false, false] (by kernel_rfl) rfl rfl trivial (fun hHeld => ?_); refine with_tabW spec_l03Pieces.tab11 spec_l03Pieces.bits11 (fun HT_ HW_ => ?_)
         generalize wr.drew = w22 at HO_3 HI0 HK HB hHeld ⊢
         refine pu_ 0 (some 66) HT_ ?_
         refine pu_ 1 (some 67) HT_ ?_
         refine pu_ 2 (some 68) HT_ ?_
         refine pu_ 5 (some 71) HT_ ?_
         refine pu_ 6 (some 72) HT_ ?_
         refine pu_ 8 (some 74) HT_ ?_
         refine pu_ 9 (some 75) HT_ ?_
         refine join_ (σ := Value) 4 #[true, true, true, true, true, true, true, true, true, true, true, true, false, false, false, false] (fun s_ => [(69, s_), (70, .string (strOfNums y159)), (73, .int .i64 t162), (76, .int .i64 t163), (77, .int .i64 (wrap64 (t162 - t163)))]) (fun s_ w' => (Kd.R (Kd.int .u8) 5 w' w.heap.size (fun _ => True) s_ y159) ∧ (Kd.R k108 108 w' w.heap.size (fun _ => True) (.slice Ao21 x3_2.length co21) x3_2) ∧ (IsS31 w0 w' g E0 E1) ∧ (KeepBut w w' g none) ∧ (Below w0.heap.size w0 w')) ?_ ?_
         rotate_left
         ·intro hJ3_4_7_10
          refine join_ (σ := Value) 6 #[true, true, true, true, true, true, true, true, true, true, false, false, false, false, false, false] (fun s_ => [(69, s_), (70, .string (strOfNums y159)), (73, .int .i64 t162)]) (fun s_ w' => (Kd.R (Kd.int .u8) 5 w' w.heap.size (fun _ => True) s_ y159) ∧ (Kd.R k108 108 w' w.heap.size (fun _ => True) (.slice Ao21 x3_2.length co21) x3_2) ∧ (IsS31 w0 w' g E0 E1) ∧ (KeepBut w w' g none) ∧ (Below w0.heap.size w0 w')) ?_ ?_
          rotate_left
          ·intro hJ3_4_7
           refine join_ (σ := Value) 5 #[true, true, true, true, false, true, true, true, true, true, true, true, false, false, false, false] (fun s_ => [(69, s_), (73, .int .i64 t162), (76, .int .i64 t163), (77, .int .i64 (wrap64 (t162 - t163)))]) (fun s_ w' => (Kd.R (Kd.int .u8) 5 w' w.heap.size (fun _ => True) s_ y159) ∧ (Kd.R k108 108 w' w.heap.size (fun _ => True) (.slice Ao21 x3_2.length co21) x3_2) ∧ (IsS31 w0 w' g E0 E1) ∧ (KeepBut w w' g none) ∧ (Below w0.heap.size w0 w')) ?_ ?_
           rotate_left
           ·intro hJ3_7_10
            refine join_ (σ := Value) 7 #[true, true, true, true, true, true, true, false, true, true, false, false, false, false, false, false] (fun s_ => [(69, s_), (70, .string (strOfNums y159))]) (fun s_ w' => (Kd.R (Kd.int .u8) 5 w' w.heap.size (fun _ => True) s_ y159) ∧ (Kd.R k108 108 w' w.heap.size (fun _ => True) (.slice Ao21 x3_2.length co21) x3_2) ∧ (IsS31 w0 w' g E0 E1) ∧ (KeepBut w w' g none) ∧ (Below w0.heap.size w0 w')) ?_ ?_
            rotate_left
            ·intro hJ3_4
             refine join_ (σ := Value) 7 #[true, true, true, true, false, true, true, true, true, true, false, false, false, false, false, false] (fun s_ => [(69, s_), (73, .int .i64 t162)]) (fun s_ w' => (Kd.R (Kd.int .u8) 5 w' w.heap.size (fun _ => True) s_ y159) ∧ (Kd.R k108 108 w' w.heap.size (fun _ => True) (.slice Ao21 x3_2.length co21) x3_2) ∧ (IsS31 w0 w' g E0 E1) ∧ (KeepBut w w' g none) ∧ (Below w0.heap.size w0 w')) ?_ ?_
             rotate_left
             ·intro hJ3_7
              refine join_ (σ := Unit) 6 #[true, true, true, false, false, true, true, true, true, true, true, true, false, false, false, false] (fun s_ => [(73, .int .i64 t162), (76, .int .i64 t163), (77, .int .i64 (wrap64 (t162 - t163)))]) (fun s_ w' => (Kd.R k108 108 w' w.heap.size (fun _ => True) (.slice Ao21 x3_2.length co21) x3_2) ∧ (IsS31 w0 w' g E0 E1) ∧ (KeepBut w w' g none) ∧ (Below w0.heap.size w0 w')) ?_ ?_
              rotate_left
              ·intro hJ7_10
               refine join_ (σ := Value) 8 #[true, true, true, true, false, true, true, false, true, true, false, false, false, false, false, false] (fun s_ => [(69, s_)]) (fun s_ w' => (Kd.R (Kd.int .u8) 5 w' w.heap.size (fun _ => True) s_ y159) ∧ (Kd.R k108 108 w' w.heap.size (fun _ => True) (.slice Ao21 x3_2.length co21) x3_2) ∧ (IsS31 w0 w' g E0 E1) ∧ (KeepBut w w' g none) ∧ (Below w0.heap.size w0 w')) ?_ ?_
               rotate_left
               ·intro hJ3
                refine join_ (σ := Unit) 8 #[true, true, true, false, false, true, true, true, true, true, false, false, false, false, false, false] (fun s_ => [(73, .int .i64 t162)]) (fun s_ w' => (Kd.R k108 108 w' w.heap.size (fun _ => True) (.slice Ao21 x3_2.length co21) x3_2) ∧ (IsS31 w0 w' g E0 E1) ∧ (KeepBut w w' g none) ∧ (Below w0.heap.size w0 w')) ?_ ?_
                rotate_left
                ·intro hJ7
                 refine two_ (i := 3) (j := 7) (Ni := some 69) (Nj := some 73) #[true, true, true, true, false, true, true, false, true, true, false, false, false, false, false, false] #[true, true, true, false, false, true, true, true, true, true, false, false, false, false, false, false] rfl rfl rfl rfl (two_of HT_.out (by kernel_rfl)) (by decide) (by decide) (fun K hK => ?_) (fun K hK => ?_)
                 ·skip
                  refine Kd.R_lit_step (Kd.int .u8) _ 5 ?hg (N := 69) ?hd (xs := ([(rd_T104 E1 x5_2).f0, (rd_T104 E1 x5_2).f1] : List Int)) (inner := [.int .u8 ((rd_T104 E1 x5_2).f0), .int .u8 ((rd_T104 E1 x5_2).f1)]) (ok := fun _ => True) (okp := fun _ => True) ?hr ?hp (fun _ hk => hk) trivial (Below.refl _ _) (Nat.le_refl _) (by simp) ?_; (case hd => rfl); (case hg => rfl); (case hr => first | (go_simp; done) | (go_simp; rfl)); (case hp => exact (Reps.one (show Kd.M (Kd.int .u8) _ _ _ ((rd_T104 E1 x5_2).f0) [.int .u8 ((rd_T104 E1 x5_2).f0)] from rfl) (Reps.one (show Kd.M (Kd.int .u8) _ _ _ ((rd_T104 E1 x5_2).f1) [.int .u8 ((rd_T104 E1 x5_2).f1)] from rfl) (Reps.none _ _))))
                  intro v160 w23 ho24 hb hg_ hnew_
                  clear hg_ hnew_
                  (first | rw [← Ny159.out] at ho24 | (simp only [Int.reduceToNat] at ho24; rw [← Ny159.out] at ho24))
                  have n0_ := Aside0.mk (Kd.R_below (by (with_reducible repeat (first | apply Kd.R_alloc | apply Kd.R_drewN | apply Kd.R_drew)); exact HO_3.out) hb)
                  have n1_ := Aside0.mk (Kd.R_lower ho24 (keep_size (w := w) (g := g) (row := none) (by repeat (first | (with_reducible first | exact HK.out | apply KeepBut.set_ | apply keep_drewN | apply keep_drew | apply keep_alloc) | exact HK.out))))
                  have n2_ := Aside0.mk (IsS31.below (by repeat (first | (with_reducible first | exact HI0.out | apply IsS31.alloc | apply IsS31.drewN | apply IsS31.drew) | exact HI0.out)) hb)
                  have n3_ := Aside0.mk (KeepBut.trans (by repeat (first | (with_reducible first | exact HK.out | apply KeepBut.set_ | apply keep_drewN | apply keep_drew | apply keep_alloc) | exact HK.out)) (KeepBut.of_below hb g none) (.inl rfl))
                  have n4_ := Aside0.mk (below_step (by repeat (first | (with_reducible first | exact HB.out | apply bwA | apply pwN | apply bw1 | refine below_set ?_ (IsS31.ge HI0.out)) | exact HB.out)) hb)
                  clear HO_3
                  clear HI0
                  clear HK
                  clear HB
                  have HO_3 := n0_
                  have HO161 := n1_
                  have HI0 := n2_
                  have HK := n3_
                  have HB := n4_
                  clear n0_ n1_ n2_ n3_ n4_
                  clear hb ho24
                  refine hK.out _ _ trivial (fun hHeld => ?_)
                  clear hK K
                  refine nm_ (some 69) ?_
                  exact norm_ (by first | (simp only [putAll, Act.put, List.setIfInBounds_toArray, List.set_cons_zero, List.set_cons_succ]; done) | (simp only [putAll, Act.put, List.setIfInBounds_toArray, List.set_cons_zero, List.set_cons_succ]; rfl)) (hJ3 (v160) _ ⟨(by (with_reducible repeat (first | apply Kd.R_alloc | apply Kd.R_drewN | apply Kd.R_drew)); exact HO161.out), (by (with_reducible repeat (first | apply Kd.R_alloc | apply Kd.R_drewN | apply Kd.R_drew)); exact HO_3.out), (by repeat (first | (with_reducible first | exact HI0.out | apply IsS31.alloc | apply IsS31.drewN | apply IsS31.drew) | exact HI0.out)), (by repeat (first | (with_reducible first | exact HK.out | apply KeepBut.set_ | apply keep_drewN | apply keep_drew | apply keep_alloc) | exact HK.out)), (by repeat (first | (with_reducible first | exact HB.out | apply bwA | apply pwN | apply bw1 | refine below_set ?_ (IsS31.ge HI0.out)) | exact HB.out))⟩)
                 ·skip
                  refine goes_ Try.func54 (by kernel_rfl) rfl #[.pointer (some ⟨g, 0, none⟩), .int .u8 ((rd_T104 E1 x5_2).f1)] (by rfl) rfl rfl (by (try simp only [List.map_toArray, List.map_cons, List.map_nil]); first | done | rfl | (simp only [List.length_drop, List.length_take]; rfl)) ?_
                  with_reducible refine (spec_l03Value.calls k2 g E0 E1 ((rd_T104 E1 x5_2).f1) t162 w0 _ ?side1 ?side2 A17.out).mono ?_
                  (case side1 => repeat (first | (with_reducible first | exact HI0.out | apply IsS31.alloc | apply IsS31.drewN | apply IsS31.drew) | exact HI0.out))
                  (case side2 => repeat (first | (with_reducible first | exact HB.out | apply bwA | apply pwN | apply bw1 | refine below_set ?_ (IsS31.ge HI0.out)) | exact HB.out))
                  rintro e w23 ⟨rfl, hi, hb, hk⟩
                  refine ⟨_, rfl, ?_⟩
                  have n0_ := Aside0.mk (Kd.R_mono (Kd.R_keep (IsS31.apart (show IsS31 w0 _ g E0 E1 from by repeat (first | (with_reducible first | exact HI0.out | apply IsS31.alloc | apply IsS31.drewN | apply IsS31.drew) | exact HI0.out)) (by (with_reducible repeat (first | apply Kd.R_alloc | apply Kd.R_drewN | apply Kd.R_drew)); exact HO_3.out) (by decide)) hk (fun _ h => h.2)) (fun _ h => h.1))
                  have n1_ := Aside0.mk (KeepBut.trans (by repeat (first | (with_reducible first | exact HK.out | apply KeepBut.set_ | apply keep_drewN | apply keep_drew | apply keep_alloc) | exact HK.out)) hk (.inl rfl))
                  have n2_ := Aside0.mk (hb)
                  have n3_ := Aside0.mk (hi)
                  clear HO_3
                  clear HK
                  clear HB
                  clear HI0
                  have HO_3 := n0_
                  have HK := n1_
                  have HB := n2_
                  have HI0 := n3_
                  clear n0_ n1_ n2_ n3_
                  (try clear hb)
                  (try clear hb2)
                  (try clear hk)
                  (try clear hi)
                  refine hK.out _ _ trivial (fun hHeld => ?_)
                  clear hK K
                  refine nm_ (some 73) ?_
                  exact norm_ (by first | (simp only [putAll, Act.put, List.setIfInBounds_toArray, List.set_cons_zero, List.set_cons_succ]; done) | (simp only [putAll, Act.put, List.setIfInBounds_toArray, List.set_cons_zero, List.set_cons_succ]; rfl)) (hJ7 () _ ⟨(by (with_reducible repeat (first | apply Kd.R_alloc | apply Kd.R_drewN | apply Kd.R_drew)); exact HO_3.out), (by repeat (first | (with_reducible first | exact HI0.out | apply IsS31.alloc | apply IsS31.drewN | apply IsS31.drew) | exact HI0.out)), (by repeat (first | (with_reducible first | exact HK.out | apply KeepBut.set_ | apply keep_drewN | apply keep_drew | apply keep_alloc) | exact HK.out)), (by repeat (first | (with_reducible first | exact HB.out | apply bwA | apply pwN | apply bw1 | refine below_set ?_ (IsS31.ge HI0.out)) | exact HB.out))⟩)
                ·skip
                 rintro _ w24 ⟨h0_, h1_, h2_, h3_⟩
                 have n0_ : Aside0 (Kd.R k108 108 w24 w.heap.size (fun _ => True) (.slice Ao21 x3_2.length co21) x3_2) := ⟨h0_⟩
                 have n1_ : Aside0 (IsS31 w0 w24 g E0 E1) := ⟨h1_⟩
                 have n2_ : Aside0 (KeepBut w w24 g none) := ⟨h2_⟩
                 have n3_ : Aside0 (Below w0.heap.size w0 w24) := ⟨h3_⟩
                 clear HO_3
                 clear HI0
                 clear HK
                 clear HB
                 clear h0_ h1_ h2_ h3_
                 have HO_3 := n0_
                 have HI0 := n1_
                 have HK := n2_
                 have HB := n3_
                 clear n0_ n1_ n2_ n3_
                 have hHeld := trivial
                 refine norm_ (a' := ?_) ?_ ?_
                 rotate_left
                 ·simp only [putAll, Act.put, List.setIfInBounds_toArray, List.set_cons_zero, List.set_cons_succ]
                  rfl
                 refine two_ (i := 3) (j := 10) (Ni := some 69) (Nj := some 76) #[true, true, true, true, false, true, true, true, true, true, false, false, false, false, false, false] #[true, true, true, false, false, true, true, true, true, true, true, false, false, false, false, false] rfl rfl rfl rfl (two_of HT_.out (by kernel_rfl)) (by decide) (by decide) (fun K hK => ?_) (fun K hK => ?_)
                 ·skip
                  refine Kd.R_lit_step (Kd.int .u8) _ 5 ?hg (N := 69) ?hd (xs := ([(rd_T104 E1 x5_2).f0, (rd_T104 E1 x5_2).f1] : List Int)) (inner := [.int .u8 ((rd_T104 E1 x5_2).f0), .int .u8 ((rd_T104 E1 x5_2).f1)]) (ok := fun _ => True) (okp := fun _ => True) ?hr ?hp (fun _ hk => hk) trivial (Below.refl _ _) (Nat.le_refl _) (by simp) ?_; (case hd => rfl); (case hg => rfl); (case hr => first | (go_simp; done) | (go_simp; rfl)); (case hp => exact (Reps.one (show Kd.M (Kd.int .u8) _ _ _ ((rd_T104 E1 x5_2).f0) [.int .u8 ((rd_T104 E1 x5_2).f0)] from rfl) (Reps.one (show Kd.M (Kd.int .u8) _ _ _ ((rd_T104 E1 x5_2).f1) [.int .u8 ((rd_T104 E1 x5_2).f1)] from rfl) (Reps.none _ _))))
                  intro v160 w25 ho26 hb hg_ hnew_
                  clear hg_ hnew_
                  (first | rw [← Ny159.out] at ho26 | (simp only [Int.reduceToNat] at ho26; rw [← Ny159.out] at ho26))
                  have n0_ := Aside0.mk (Kd.R_below (by (with_reducible repeat (first | apply Kd.R_alloc | apply Kd.R_drewN | apply Kd.R_drew)); exact HO_3.out) hb)
                  have n1_ := Aside0.mk (Kd.R_lower ho26 (keep_size (w := w) (g := g) (row := none) (by repeat (first | (with_reducible first | exact HK.out | apply KeepBut.set_ | apply keep_drewN | apply keep_drew | apply keep_alloc) | exact HK.out))))
                  have n2_ := Aside0.mk (IsS31.below (by repeat (first | (with_reducible first | exact HI0.out | apply IsS31.alloc | apply IsS31.drewN | apply IsS31.drew) | exact HI0.out)) hb)
                  have n3_ := Aside0.mk (KeepBut.trans (by repeat (first | (with_reducible first | exact HK.out | apply KeepBut.set_ | apply keep_drewN | apply keep_drew | apply keep_alloc) | exact HK.out)) (KeepBut.of_below hb g none) (.inl rfl))
                  have n4_ := Aside0.mk (below_step (by repeat (first | (with_reducible first | exact HB.out | apply bwA | apply pwN | apply bw1 | refine below_set ?_ (IsS31.ge HI0.out)) | exact HB.out)) hb)
                  clear HO_3
                  clear HI0
                  clear HK
                  clear HB
                  have HO_3 := n0_
                  have HO161 := n1_
                  have HI0 := n2_
                  have HK := n3_
                  have HB := n4_
                  clear n0_ n1_ n2_ n3_ n4_
                  clear hb ho26
                  refine hK.out _ _ trivial (fun hHeld => ?_)
                  clear hK K
                  refine nm_ (some 69) ?_
                  exact norm_ (by first | (simp only [putAll, Act.put, List.setIfInBounds_toArray, List.set_cons_zero, List.set_cons_succ]; done) | (simp only [putAll, Act.put, List.setIfInBounds_toArray, List.set_cons_zero, List.set_cons_succ]; rfl)) (hJ3_7 (v160) _ ⟨(by (with_reducible repeat (first | apply Kd.R_alloc | apply Kd.R_drewN | apply Kd.R_drew)); exact HO161.out), (by (with_reducible repeat (first | apply Kd.R_alloc | apply Kd.R_drewN | apply Kd.R_drew)); exact HO_3.out), (by repeat (first | (with_reducible first | exact HI0.out | apply IsS31.alloc | apply IsS31.drewN | apply IsS31.drew) | exact HI0.out)), (by repeat (first | (with_reducible first | exact HK.out | apply KeepBut.set_ | apply keep_drewN | apply keep_drew | apply keep_alloc) | exact HK.out)), (by repeat (first | (with_reducible first | exact HB.out | apply bwA | apply pwN | apply bw1 | refine below_set ?_ (IsS31.ge HI0.out)) | exact HB.out))⟩)
                 ·skip
                  refine goes_ Try.func54 (by kernel_rfl) rfl #[.pointer (some ⟨g, 0, none⟩), .int .u8 ((rd_T104 E1 x5_2).f0)] (by rfl) rfl rfl (by (try simp only [List.map_toArray, List.map_cons, List.map_nil]); first | done | rfl | (simp only [List.length_drop, List.length_take]; rfl)) ?_
                  with_reducible refine (spec_l03Value.calls k2 g E0 E1 ((rd_T104 E1 x5_2).f0) t163 w0 _ ?side1 ?side2 A18.out).mono ?_
                  (case side1 => repeat (first | (with_reducible first | exact HI0.out | apply IsS31.alloc | apply IsS31.drewN | apply IsS31.drew) | exact HI0.out))
                  (case side2 => repeat (first | (with_reducible first | exact HB.out | apply bwA | apply pwN | apply bw1 | refine below_set ?_ (IsS31.ge HI0.out)) | exact HB.out))
                  rintro e w25 ⟨rfl, hi, hb, hk⟩
                  refine ⟨_, rfl, ?_⟩
                  have n0_ := Aside0.mk (Kd.R_mono (Kd.R_keep (IsS31.apart (show IsS31 w0 _ g E0 E1 from by repeat (first | (with_reducible first | exact HI0.out | apply IsS31.alloc | apply IsS31.drewN | apply IsS31.drew) | exact HI0.out)) (by (with_reducible repeat (first | apply Kd.R_alloc | apply Kd.R_drewN | apply Kd.R_drew)); exact HO_3.out) (by decide)) hk (fun _ h => h.2)) (fun _ h => h.1))
                  have n1_ := Aside0.mk (KeepBut.trans (by repeat (first | (with_reducible first | exact HK.out | apply KeepBut.set_ | apply keep_drewN | apply keep_drew | apply keep_alloc) | exact HK.out)) hk (.inl rfl))
                  have n2_ := Aside0.mk (hb)
                  have n3_ := Aside0.mk (hi)
                  clear HO_3
                  clear HK
                  clear HB
                  clear HI0
                  have HO_3 := n0_
                  have HK := n1_
                  have HB := n2_
                  have HI0 := n3_
                  clear n0_ n1_ n2_ n3_
                  (try clear hb)
                  (try clear hb2)
                  (try clear hk)
                  (try clear hi)
                  refine hK.out _ _ trivial (fun hHeld => ?_)
                  clear hK K
                  refine nm_ (some 76) ?_
                  refine pu_ 11 (some 77) HT_ ?_
                  exact norm_ (by first | (simp only [putAll, Act.put, List.setIfInBounds_toArray, List.set_cons_zero, List.set_cons_succ]; done) | (simp only [putAll, Act.put, List.setIfInBounds_toArray, List.set_cons_zero, List.set_cons_succ]; rfl)) (hJ7_10 () _ ⟨(by (with_reducible repeat (first | apply Kd.R_alloc | apply Kd.R_drewN | apply Kd.R_drew)); exact HO_3.out), (by repeat (first | (with_reducible first | exact HI0.out | apply IsS31.alloc | apply IsS31.drewN | apply IsS31.drew) | exact HI0.out)), (by repeat (first | (with_reducible first | exact HK.out | apply KeepBut.set_ | apply keep_drewN | apply keep_drew | apply keep_alloc) | exact HK.out)), (by repeat (first | (with_reducible first | exact HB.out | apply bwA | apply pwN | apply bw1 | refine below_set ?_ (IsS31.ge HI0.out)) | exact HB.out))⟩)
               ·skip
                rintro v160 w25 ⟨h0_, h1_, h2_, h3_, h4_⟩
                have n0_ : Aside0 (Kd.R (Kd.int .u8) 5 w25 w.heap.size (fun _ => True) v160 y159) := ⟨h0_⟩
                have n1_ : Aside0 (Kd.R k108 108 w25 w.heap.size (fun _ => True) (.slice Ao21 x3_2.length co21) x3_2) := ⟨h1_⟩
                have n2_ : Aside0 (IsS31 w0 w25 g E0 E1) := ⟨h2_⟩
                have n3_ : Aside0 (KeepBut w w25 g none) := ⟨h3_⟩
                have n4_ : Aside0 (Below w0.heap.size w0 w25) := ⟨h4_⟩
                clear HO_3
                clear HI0
                clear HK
                clear HB
                clear h0_ h1_ h2_ h3_ h4_
                have HO161 := n0_
                have HO_3 := n1_
                have HI0 := n2_
                have HK := n3_
                have HB := n4_
                clear n0_ n1_ n2_ n3_ n4_
                have hHeld := trivial
                refine norm_ (a' := ?_) ?_ ?_
                rotate_left
                ·simp only [putAll, Act.put, List.setIfInBounds_toArray, List.set_cons_zero, List.set_cons_succ]
                 rfl
                refine two_ (i := 4) (j := 7) (Ni := some 70) (Nj := some 73) #[true, true, true, true, true, true, true, false, true, true, false, false, false, false, false, false] #[true, true, true, true, false, true, true, true, true, true, false, false, false, false, false, false] rfl rfl rfl rfl (two_of HT_.out (by kernel_rfl)) (by decide) (by decide) (fun K hK => ?_) (fun K hK => ?_)
                ·skip
                 have hcv26 := own_string (P := Try.prog) Try.underlying106 Try.underlying5 Try.underlying9 (Kd.own_of_R HO161.out)
                 refine value_ (w1 := ?_) (v := ?_) (by rfl) rfl ?_ ?_
                 rotate_left 2
                 ·go_simp
                  constructor
                  ·rfl
                  ·rfl
                 clear hcv26
                 refine hK.out _ _ trivial (fun hHeld => ?_)
                 clear hK K
                 refine nm_ (some 70) ?_
                 exact norm_ (by first | (simp only [putAll, Act.put, List.setIfInBounds_toArray, List.set_cons_zero, List.set_cons_succ]; done) | (simp only [putAll, Act.put, List.setIfInBounds_toArray, List.set_cons_zero, List.set_cons_succ]; rfl)) (hJ3_4 (v160) _ ⟨(by (with_reducible repeat (first | apply Kd.R_alloc | apply Kd.R_drewN | apply Kd.R_drew)); exact HO161.out), (by (with_reducible repeat (first | apply Kd.R_alloc | apply Kd.R_drewN | apply Kd.R_drew)); exact HO_3.out), (by repeat (first | (with_reducible first | exact HI0.out | apply IsS31.alloc | apply IsS31.drewN | apply IsS31.drew) | exact HI0.out)), (by repeat (first | (with_reducible first | exact HK.out | apply KeepBut.set_ | apply keep_drewN | apply keep_drew | apply keep_alloc) | exact HK.out)), (by repeat (first | (with_reducible first | exact HB.out | apply bwA | apply pwN | apply bw1 | refine below_set ?_ (IsS31.ge HI0.out)) | exact HB.out))⟩)
                ·skip
                 refine goes_ Try.func54 (by kernel_rfl) rfl #[.pointer (some ⟨g, 0, none⟩), .int .u8 ((rd_T104 E1 x5_2).f1)] (by rfl) rfl rfl (by (try simp only [List.map_toArray, List.map_cons, List.map_nil]); first | done | rfl | (simp only [List.length_drop, List.length_take]; rfl)) ?_
                 with_reducible refine (spec_l03Value.calls k2 g E0 E1 ((rd_T104 E1 x5_2).f1) t162 w0 _ ?side1 ?side2 A17.out).mono ?_
                 (case side1 => repeat (first | (with_reducible first | exact HI0.out | apply IsS31.alloc | apply IsS31.drewN | apply IsS31.drew) | exact HI0.out))
                 (case side2 => repeat (first | (with_reducible first | exact HB.out | apply bwA | apply pwN | apply bw1 | refine below_set ?_ (IsS31.ge HI0.out)) | exact HB.out))
                 rintro e w26 ⟨rfl, hi, hb, hk⟩
                 refine ⟨_, rfl, ?_⟩
                 have n0_ := Aside0.mk (Kd.R_mono (Kd.R_keep (IsS31.apart (show IsS31 w0 _ g E0 E1 from by repeat (first | (with_reducible first | exact HI0.out | apply IsS31.alloc | apply IsS31.drewN | apply IsS31.drew) | exact HI0.out)) (by (with_reducible repeat (first | apply Kd.R_alloc | apply Kd.R_drewN | apply Kd.R_drew)); exact HO_3.out) (by decide)) hk (fun _ h => h.2)) (fun _ h => h.1))
                 have n1_ := Aside0.mk (Kd.R_mono (Kd.R_keep (IsS31.apart (show IsS31 w0 _ g E0 E1 from by repeat (first | (with_reducible first | exact HI0.out | apply IsS31.alloc | apply IsS31.drewN | apply IsS31.drew) | exact HI0.out)) (by (with_reducible repeat (first | apply Kd.R_alloc | apply Kd.R_drewN | apply Kd.R_drew)); exact HO161.out) (by decide)) hk (fun _ h => h.2)) (fun _ h => h.1))
                 have n2_ := Aside0.mk (KeepBut.trans (by repeat (first | (with_reducible first | exact HK.out | apply KeepBut.set_ | apply keep_drewN | apply keep_drew | apply keep_alloc) | exact HK.out)) hk (.inl rfl))
                 have n3_ := Aside0.mk (hb)
                 have n4_ := Aside0.mk (hi)
                 clear HO_3
                 clear HO161
                 clear HK
                 clear HB
                 clear HI0
                 have HO_3 := n0_
                 have HO161 := n1_
                 have HK := n2_
                 have HB := n3_
                 have HI0 := n4_
                 clear n0_ n1_ n2_ n3_ n4_
                 (try clear hb)
                 (try clear hb2)
                 (try clear hk)
                 (try clear hi)
                 refine hK.out _ _ trivial (fun hHeld => ?_)
                 clear hK K
                 refine nm_ (some 73) ?_
                 exact norm_ (by first | (simp only [putAll, Act.put, List.setIfInBounds_toArray, List.set_cons_zero, List.set_cons_succ]; done) | (simp only [putAll, Act.put, List.setIfInBounds_toArray, List.set_cons_zero, List.set_cons_succ]; rfl)) (hJ3_7 (v160) _ ⟨(by (with_reducible repeat (first | apply Kd.R_alloc | apply Kd.R_drewN | apply Kd.R_drew)); exact HO161.out), (by (with_reducible repeat (first | apply Kd.R_alloc | apply Kd.R_drewN | apply Kd.R_drew)); exact HO_3.out), (by repeat (first | (with_reducible first | exact HI0.out | apply IsS31.alloc | apply IsS31.drewN | apply IsS31.drew) | exact HI0.out)), (by repeat (first | (with_reducible first | exact HK.out | apply KeepBut.set_ | apply keep_drewN | apply keep_drew | apply keep_alloc) | exact HK.out)), (by repeat (first | (with_reducible first | exact HB.out | apply bwA | apply pwN | apply bw1 | refine below_set ?_ (IsS31.ge HI0.out)) | exact HB.out))⟩)
              ·skip
               rintro _ w25 ⟨h0_, h1_, h2_, h3_⟩
               have n0_ : Aside0 (Kd.R k108 108 w25 w.heap.size (fun _ => True) (.slice Ao21 x3_2.length co21) x3_2) := ⟨h0_⟩
               have n1_ : Aside0 (IsS31 w0 w25 g E0 E1) := ⟨h1_⟩
               have n2_ : Aside0 (KeepBut w w25 g none) := ⟨h2_⟩
               have n3_ : Aside0 (Below w0.heap.size w0 w25) := ⟨h3_⟩
               clear HO_3
               clear HI0
               clear HK
               clear HB
               clear h0_ h1_ h2_ h3_
               have HO_3 := n0_
               have HI0 := n1_
               have HK := n2_
               have HB := n3_
               clear n0_ n1_ n2_ n3_
               have hHeld := trivial
               refine norm_ (a' := ?_) ?_ ?_
               rotate_left
               ·simp only [putAll, Act.put, List.setIfInBounds_toArray, List.set_cons_zero, List.set_cons_succ]
                rfl
               refine on_ 3 (some 69) HT_ fun K hK => ?_
               refine Kd.R_lit_step (Kd.int .u8) _ 5 ?hg (N := 69) ?hd (xs := ([(rd_T104 E1 x5_2).f0, (rd_T104 E1 x5_2).f1] : List Int)) (inner := [.int .u8 ((rd_T104 E1 x5_2).f0), .int .u8 ((rd_T104 E1 x5_2).f1)]) (ok := fun _ => True) (okp := fun _ => True) ?hr ?hp (fun _ hk => hk) trivial (Below.refl _ _) (Nat.le_refl _) (by simp) ?_; (case hd => rfl); (case hg => rfl); (case hr => first | (go_simp; done) | (go_simp; rfl)); (case hp => exact (Reps.one (show Kd.M (Kd.int .u8) _ _ _ ((rd_T104 E1 x5_2).f0) [.int .u8 ((rd_T104 E1 x5_2).f0)] from rfl) (Reps.one (show Kd.M (Kd.int .u8) _ _ _ ((rd_T104 E1 x5_2).f1) [.int .u8 ((rd_T104 E1 x5_2).f1)] from rfl) (Reps.none _ _))))
               intro v160 w26 ho27 hb hg_ hnew_
               clear hg_ hnew_
               (first | rw [← Ny159.out] at ho27 | (simp only [Int.reduceToNat] at ho27; rw [← Ny159.out] at ho27))
               have n0_ := Aside0.mk (Kd.R_below (by (with_reducible repeat (first | apply Kd.R_alloc | apply Kd.R_drewN | apply Kd.R_drew)); exact HO_3.out) hb)
               have n1_ := Aside0.mk (Kd.R_lower ho27 (keep_size (w := w) (g := g) (row := none) (by repeat (first | (with_reducible first | exact HK.out | apply KeepBut.set_ | apply keep_drewN | apply keep_drew | apply keep_alloc) | exact HK.out))))
               have n2_ := Aside0.mk (IsS31.below (by repeat (first | (with_reducible first | exact HI0.out | apply IsS31.alloc | apply IsS31.drewN | apply IsS31.drew) | exact HI0.out)) hb)
               have n3_ := Aside0.mk (KeepBut.trans (by repeat (first | (with_reducible first | exact HK.out | apply KeepBut.set_ | apply keep_drewN | apply keep_drew | apply keep_alloc) | exact HK.out)) (KeepBut.of_below hb g none) (.inl rfl))
               have n4_ := Aside0.mk (below_step (by repeat (first | (with_reducible first | exact HB.out | apply bwA | apply pwN | apply bw1 | refine below_set ?_ (IsS31.ge HI0.out)) | exact HB.out)) hb)
               clear HO_3
               clear HI0
               clear HK
               clear HB
               have HO_3 := n0_
               have HO161 := n1_
               have HI0 := n2_
               have HK := n3_
               have HB := n4_
               clear n0_ n1_ n2_ n3_ n4_
               clear hb ho27
               refine hK.out _ _ trivial (fun hHeld => ?_)
               clear hK K
               refine nm_ (some 69) ?_
               exact norm_ (by first | (simp only [putAll, Act.put, List.setIfInBounds_toArray, List.set_cons_zero, List.set_cons_succ]; done) | (simp only [putAll, Act.put, List.setIfInBounds_toArray, List.set_cons_zero, List.set_cons_succ]; rfl)) (hJ3_7_10 (v160) _ ⟨(by (with_reducible repeat (first | apply Kd.R_alloc | apply Kd.R_drewN | apply Kd.R_drew)); exact HO161.out), (by (with_reducible repeat (first | apply Kd.R_alloc | apply Kd.R_drewN | apply Kd.R_drew)); exact HO_3.out), (by repeat (first | (with_reducible first | exact HI0.out | apply IsS31.alloc | apply IsS31.drewN | apply IsS31.drew) | exact HI0.out)), (by repeat (first | (with_reducible first | exact HK.out | apply KeepBut.set_ | apply keep_drewN | apply keep_drew | apply keep_alloc) | exact HK.out)), (by repeat (first | (with_reducible first | exact HB.out | apply bwA | apply pwN | apply bw1 | refine below_set ?_ (IsS31.ge HI0.out)) | exact HB.out))⟩)
             ·skip
              rintro v160 w26 ⟨h0_, h1_, h2_, h3_, h4_⟩
              have n0_ : Aside0 (Kd.R (Kd.int .u8) 5 w26 w.heap.size (fun _ => True) v160 y159) := ⟨h0_⟩
              have n1_ : Aside0 (Kd.R k108 108 w26 w.heap.size (fun _ => True) (.slice Ao21 x3_2.length co21) x3_2) := ⟨h1_⟩
              have n2_ : Aside0 (IsS31 w0 w26 g E0 E1) := ⟨h2_⟩
              have n3_ : Aside0 (KeepBut w w26 g none) := ⟨h3_⟩
              have n4_ : Aside0 (Below w0.heap.size w0 w26) := ⟨h4_⟩
              clear HO_3
              clear HI0
              clear HK
              clear HB
              clear h0_ h1_ h2_ h3_ h4_
              have HO161 := n0_
              have HO_3 := n1_
              have HI0 := n2_
              have HK := n3_
              have HB := n4_
              clear n0_ n1_ n2_ n3_ n4_
              have hHeld := trivial
              refine norm_ (a' := ?_) ?_ ?_
              rotate_left
              ·simp only [putAll, Act.put, List.setIfInBounds_toArray, List.set_cons_zero, List.set_cons_succ]
               rfl
              refine two_ (i := 4) (j := 10) (Ni := some 70) (Nj := some 76) #[true, true, true, true, true, true, true, true, true, true, false, false, false, false, false, false] #[true, true, true, true, false, true, true, true, true, true, true, false, false, false, false, false] rfl rfl rfl rfl (two_of HT_.out (by kernel_rfl)) (by decide) (by decide) (fun K hK => ?_) (fun K hK => ?_)
              ·skip
               have hcv27 := own_string (P := Try.prog) Try.underlying106 Try.underlying5 Try.underlying9 (Kd.own_of_R HO161.out)
               refine value_ (w1 := ?_) (v := ?_) (by rfl) rfl ?_ ?_
               rotate_left 2
               ·go_simp
                constructor
                ·rfl
                ·rfl
               clear hcv27
               refine hK.out _ _ trivial (fun hHeld => ?_)
               clear hK K
               refine nm_ (some 70) ?_
               exact norm_ (by first | (simp only [putAll, Act.put, List.setIfInBounds_toArray, List.set_cons_zero, List.set_cons_succ]; done) | (simp only [putAll, Act.put, List.setIfInBounds_toArray, List.set_cons_zero, List.set_cons_succ]; rfl)) (hJ3_4_7 (v160) _ ⟨(by (with_reducible repeat (first | apply Kd.R_alloc | apply Kd.R_drewN | apply Kd.R_drew)); exact HO161.out), (by (with_reducible repeat (first | apply Kd.R_alloc | apply Kd.R_drewN | apply Kd.R_drew)); exact HO_3.out), (by repeat (first | (with_reducible first | exact HI0.out | apply IsS31.alloc | apply IsS31.drewN | apply IsS31.drew) | exact HI0.out)), (by repeat (first | (with_reducible first | exact HK.out | apply KeepBut.set_ | apply keep_drewN | apply keep_drew | apply keep_alloc) | exact HK.out)), (by repeat (first | (with_reducible first | exact HB.out | apply bwA | apply pwN | apply bw1 | refine below_set ?_ (IsS31.ge HI0.out)) | exact HB.out))⟩)
              ·skip
               refine goes_ Try.func54 (by kernel_rfl) rfl #[.pointer (some ⟨g, 0, none⟩), .int .u8 ((rd_T104 E1 x5_2).f0)] (by rfl) rfl rfl (by (try simp only [List.map_toArray, List.map_cons, List.map_nil]); first | done | rfl | (simp only [List.length_drop, List.length_take]; rfl)) ?_
               with_reducible refine (spec_l03Value.calls k2 g E0 E1 ((rd_T104 E1 x5_2).f0) t163 w0 _ ?side1 ?side2 A18.out).mono ?_
               (case side1 => repeat (first | (with_reducible first | exact HI0.out | apply IsS31.alloc | apply IsS31.drewN | apply IsS31.drew) | exact HI0.out))
               (case side2 => repeat (first | (with_reducible first | exact HB.out | apply bwA | apply pwN | apply bw1 | refine below_set ?_ (IsS31.ge HI0.out)) | exact HB.out))
               rintro e w27 ⟨rfl, hi, hb, hk⟩
               refine ⟨_, rfl, ?_⟩
               have n0_ := Aside0.mk (Kd.R_mono (Kd.R_keep (IsS31.apart (show IsS31 w0 _ g E0 E1 from by repeat (first | (with_reducible first | exact HI0.out | apply IsS31.alloc | apply IsS31.drewN | apply IsS31.drew) | exact HI0.out)) (by (with_reducible repeat (first | apply Kd.R_alloc | apply Kd.R_drewN | apply Kd.R_drew)); exact HO_3.out) (by decide)) hk (fun _ h => h.2)) (fun _ h => h.1))
               have n1_ := Aside0.mk (Kd.R_mono (Kd.R_keep (IsS31.apart (show IsS31 w0 _ g E0 E1 from by repeat (first | (with_reducible first | exact HI0.out | apply IsS31.alloc | apply IsS31.drewN | apply IsS31.drew) | exact HI0.out)) (by (with_reducible repeat (first | apply Kd.R_alloc | apply Kd.R_drewN | apply Kd.R_drew)); exact HO161.out) (by decide)) hk (fun _ h => h.2)) (fun _ h => h.1))
               have n2_ := Aside0.mk (KeepBut.trans (by repeat (first | (with_reducible first | exact HK.out | apply KeepBut.set_ | apply keep_drewN | apply keep_drew | apply keep_alloc) | exact HK.out)) hk (.inl rfl))
               have n3_ := Aside0.mk (hb)
               have n4_ := Aside0.mk (hi)
               clear HO_3
               clear HO161
               clear HK
               clear HB
               clear HI0
               have HO_3 := n0_
               have HO161 := n1_
               have HK := n2_
               have HB := n3_
               have HI0 := n4_
               clear n0_ n1_ n2_ n3_ n4_
               (try clear hb)
               (try clear hb2)
               (try clear hk)
               (try clear hi)
               refine hK.out _ _ trivial (fun hHeld => ?_)
               clear hK K
               refine nm_ (some 76) ?_
               refine pu_ 11 (some 77) HT_ ?_
               exact norm_ (by first | (simp only [putAll, Act.put, List.setIfInBounds_toArray, List.set_cons_zero, List.set_cons_succ]; done) | (simp only [putAll, Act.put, List.setIfInBounds_toArray, List.set_cons_zero, List.set_cons_succ]; rfl)) (hJ3_7_10 (v160) _ ⟨(by (with_reducible repeat (first | apply Kd.R_alloc | apply Kd.R_drewN | apply Kd.R_drew)); exact HO161.out), (by (with_reducible repeat (first | apply Kd.R_alloc | apply Kd.R_drewN | apply Kd.R_drew)); exact HO_3.out), (by repeat (first | (with_reducible first | exact HI0.out | apply IsS31.alloc | apply IsS31.drewN | apply IsS31.drew) | exact HI0.out)), (by repeat (first | (with_reducible first | exact HK.out | apply KeepBut.set_ | apply keep_drewN | apply keep_drew | apply keep_alloc) | exact HK.out)), (by repeat (first | (with_reducible first | exact HB.out | apply bwA | apply pwN | apply bw1 | refine below_set ?_ (IsS31.ge HI0.out)) | exact HB.out))⟩)
            ·skip
             rintro v160 w26 ⟨h0_, h1_, h2_, h3_, h4_⟩
             have n0_ : Aside0 (Kd.R (Kd.int .u8) 5 w26 w.heap.size (fun _ => True) v160 y159) := ⟨h0_⟩
             have n1_ : Aside0 (Kd.R k108 108 w26 w.heap.size (fun _ => True) (.slice Ao21 x3_2.length co21) x3_2) := ⟨h1_⟩
             have n2_ : Aside0 (IsS31 w0 w26 g E0 E1) := ⟨h2_⟩
             have n3_ : Aside0 (KeepBut w w26 g none) := ⟨h3_⟩
             have n4_ : Aside0 (Below w0.heap.size w0 w26) := ⟨h4_⟩
             clear HO_3
             clear HI0
             clear HK
             clear HB
             clear h0_ h1_ h2_ h3_ h4_
             have HO161 := n0_
             have HO_3 := n1_
             have HI0 := n2_
             have HK := n3_
             have HB := n4_
             clear n0_ n1_ n2_ n3_ n4_
             have hHeld := trivial
             refine norm_ (a' := ?_) ?_ ?_
             rotate_left
             ·simp only [putAll, Act.put, List.setIfInBounds_toArray, List.set_cons_zero, List.set_cons_succ]
              rfl
             refine on_ 7 (some 73) HT_ fun K hK => ?_
             refine goes_ Try.func54 (by kernel_rfl) rfl #[.pointer (some ⟨g, 0, none⟩), .int .u8 ((rd_T104 E1 x5_2).f1)] (by rfl) rfl rfl (by (try simp only [List.map_toArray, List.map_cons, List.map_nil]); first | done | rfl | (simp only [List.length_drop, List.length_take]; rfl)) ?_
             with_reducible refine (spec_l03Value.calls k2 g E0 E1 ((rd_T104 E1 x5_2).f1) t162 w0 _ ?side1 ?side2 A17.out).mono ?_
             (case side1 => repeat (first | (with_reducible first | exact HI0.out | apply IsS31.alloc | apply IsS31.drewN | apply IsS31.drew) | exact HI0.out))
             (case side2 => repeat (first | (with_reducible first | exact HB.out | apply bwA | apply pwN | apply bw1 | refine below_set ?_ (IsS31.ge HI0.out)) | exact HB.out))
             rintro e w27 ⟨rfl, hi, hb, hk⟩
             refine ⟨_, rfl, ?_⟩
             have n0_ := Aside0.mk (Kd.R_mono (Kd.R_keep (IsS31.apart (show IsS31 w0 _ g E0 E1 from by repeat (first | (with_reducible first | exact HI0.out | apply IsS31.alloc | apply IsS31.drewN | apply IsS31.drew) | exact HI0.out)) (by (with_reducible repeat (first | apply Kd.R_alloc | apply Kd.R_drewN | apply Kd.R_drew)); exact HO_3.out) (by decide)) hk (fun _ h => h.2)) (fun _ h => h.1))
             have n1_ := Aside0.mk (Kd.R_mono (Kd.R_keep (IsS31.apart (show IsS31 w0 _ g E0 E1 from by repeat (first | (with_reducible first | exact HI0.out | apply IsS31.alloc | apply IsS31.drewN | apply IsS31.drew) | exact HI0.out)) (by (with_reducible repeat (first | apply Kd.R_alloc | apply Kd.R_drewN | apply Kd.R_drew)); exact HO161.out) (by decide)) hk (fun _ h => h.2)) (fun _ h => h.1))
             have n2_ := Aside0.mk (KeepBut.trans (by repeat (first | (with_reducible first | exact HK.out | apply KeepBut.set_ | apply keep_drewN | apply keep_drew | apply keep_alloc) | exact HK.out)) hk (.inl rfl))
             have n3_ := Aside0.mk (hb)
             have n4_ := Aside0.mk (hi)
             clear HO_3
             clear HO161
             clear HK
             clear HB
             clear HI0
             have HO_3 := n0_
             have HO161 := n1_
             have HK := n2_
             have HB := n3_
             have HI0 := n4_
             clear n0_ n1_ n2_ n3_ n4_
             (try clear hb)
             (try clear hb2)
             (try clear hk)
             (try clear hi)
             refine hK.out _ _ trivial (fun hHeld => ?_)
             clear hK K
             refine nm_ (some 73) ?_
             exact norm_ (by first | (simp only [putAll, Act.put, List.setIfInBounds_toArray, List.set_cons_zero, List.set_cons_succ]; done) | (simp only [putAll, Act.put, List.setIfInBounds_toArray, List.set_cons_zero, List.set_cons_succ]; rfl)) (hJ3_4_7 (v160) _ ⟨(by (with_reducible repeat (first | apply Kd.R_alloc | apply Kd.R_drewN | apply Kd.R_drew)); exact HO161.out), (by (with_reducible repeat (first | apply Kd.R_alloc | apply Kd.R_drewN | apply Kd.R_drew)); exact HO_3.out), (by repeat (first | (with_reducible first | exact HI0.out | apply IsS31.alloc | apply IsS31.drewN | apply IsS31.drew) | exact HI0.out)), (by repeat (first | (with_reducible first | exact HK.out | apply KeepBut.set_ | apply keep_drewN | apply keep_drew | apply keep_alloc) | exact HK.out)), (by repeat (first | (with_reducible first | exact HB.out | apply bwA | apply pwN | apply bw1 | refine below_set ?_ (IsS31.ge HI0.out)) | exact HB.out))⟩)
           ·skip
            rintro v160 w27 ⟨h0_, h1_, h2_, h3_, h4_⟩
            have n0_ : Aside0 (Kd.R (Kd.int .u8) 5 w27 w.heap.size (fun _ => True) v160 y159) := ⟨h0_⟩
            have n1_ : Aside0 (Kd.R k108 108 w27 w.heap.size (fun _ => True) (.slice Ao21 x3_2.length co21) x3_2) := ⟨h1_⟩
            have n2_ : Aside0 (IsS31 w0 w27 g E0 E1) := ⟨h2_⟩
            have n3_ : Aside0 (KeepBut w w27 g none) := ⟨h3_⟩
            have n4_ : Aside0 (Below w0.heap.size w0 w27) := ⟨h4_⟩
            clear HO_3
            clear HI0
            clear HK
            clear HB
            clear h0_ h1_ h2_ h3_ h4_
            have HO161 := n0_
            have HO_3 := n1_
            have HI0 := n2_
            have HK := n3_
            have HB := n4_
            clear n0_ n1_ n2_ n3_ n4_
            have hHeld := trivial
            refine norm_ (a' := ?_) ?_ ?_
            rotate_left
            ·simp only [putAll, Act.put, List.setIfInBounds_toArray, List.set_cons_zero, List.set_cons_succ]
             rfl
            refine on_ 4 (some 70) HT_ fun K hK => ?_
            have hcv28 := own_string (P := Try.prog) Try.underlying106 Try.underlying5 Try.underlying9 (Kd.own_of_R HO161.out)
            refine value_ (w1 := ?_) (v := ?_) (by rfl) rfl ?_ ?_
            rotate_left 2
            ·go_simp
             constructor
             ·rfl
             ·rfl
            clear hcv28
            refine hK.out _ _ trivial (fun hHeld => ?_)
            clear hK K
            refine nm_ (some 70) ?_
            exact norm_ (by first | (simp only [putAll, Act.put, List.setIfInBounds_toArray, List.set_cons_zero, List.set_cons_succ]; done) | (simp only [putAll, Act.put, List.setIfInBounds_toArray, List.set_cons_zero, List.set_cons_succ]; rfl)) (hJ3_4_7_10 (v160) _ ⟨(by (with_reducible repeat (first | apply Kd.R_alloc | apply Kd.R_drewN | apply Kd.R_drew)); exact HO161.out), (by (with_reducible repeat (first | apply Kd.R_alloc | apply Kd.R_drewN | apply Kd.R_drew)); exact HO_3.out), (by repeat (first | (with_reducible first | exact HI0.out | apply IsS31.alloc | apply IsS31.drewN | apply IsS31.drew) | exact HI0.out)), (by repeat (first | (with_reducible first | exact HK.out | apply KeepBut.set_ | apply keep_drewN | apply keep_drew | apply keep_alloc) | exact HK.out)), (by repeat (first | (with_reducible first | exact HB.out | apply bwA | apply pwN | apply bw1 | refine below_set ?_ (IsS31.ge HI0.out)) | exact HB.out))⟩)
          ·skip
           rintro v160 w27 ⟨h0_, h1_, h2_, h3_, h4_⟩
           have n0_ : Aside0 (Kd.R (Kd.int .u8) 5 w27 w.heap.size (fun _ => True) v160 y159) := ⟨h0_⟩
           have n1_ : Aside0 (Kd.R k108 108 w27 w.heap.size (fun _ => True) (.slice Ao21 x3_2.length co21) x3_2) := ⟨h1_⟩
           have n2_ : Aside0 (IsS31 w0 w27 g E0 E1) := ⟨h2_⟩
           have n3_ : Aside0 (KeepBut w w27 g none) := ⟨h3_⟩
           have n4_ : Aside0 (Below w0.heap.size w0 w27) := ⟨h4_⟩
           clear HO_3
           clear HI0
           clear HK
           clear HB
           clear h0_ h1_ h2_ h3_ h4_
           have HO161 := n0_
           have HO_3 := n1_
           have HI0 := n2_
           have HK := n3_
           have HB := n4_
           clear n0_ n1_ n2_ n3_ n4_
           have hHeld := trivial
           refine norm_ (a' := ?_) ?_ ?_
           rotate_left
           ·simp only [putAll, Act.put, List.setIfInBounds_toArray, List.set_cons_zero, List.set_cons_succ]
            rfl
           refine on_ 10 (some 76) HT_ fun K hK => ?_
           refine goes_ Try.func54 (by kernel_rfl) rfl #[.pointer (some ⟨g, 0, none⟩), .int .u8 ((rd_T104 E1 x5_2).f0)] (by rfl) rfl rfl (by (try simp only [List.map_toArray, List.map_cons, List.map_nil]); first | done | rfl | (simp only [List.length_drop, List.length_take]; rfl)) ?_
           with_reducible refine (spec_l03Value.calls k2 g E0 E1 ((rd_T104 E1 x5_2).f0) t163 w0 _ ?side1 ?side2 A18.out).mono ?_
           (case side1 => repeat (first | (with_reducible first | exact HI0.out | apply IsS31.alloc | apply IsS31.drewN | apply IsS31.drew) | exact HI0.out))
           (case side2 => repeat (first | (with_reducible first | exact HB.out | apply bwA | apply pwN | apply bw1 | refine below_set ?_ (IsS31.ge HI0.out)) | exact HB.out))
           rintro e w28 ⟨rfl, hi, hb, hk⟩
           refine ⟨_, rfl, ?_⟩
           have n0_ := Aside0.mk (Kd.R_mono (Kd.R_keep (IsS31.apart (show IsS31 w0 _ g E0 E1 from by repeat (first | (with_reducible first | exact HI0.out | apply IsS31.alloc | apply IsS31.drewN | apply IsS31.drew) | exact HI0.out)) (by (with_reducible repeat (first | apply Kd.R_alloc | apply Kd.R_drewN | apply Kd.R_drew)); exact HO_3.out) (by decide)) hk (fun _ h => h.2)) (fun _ h => h.1))
           have n1_ := Aside0.mk (Kd.R_mono (Kd.R_keep (IsS31.apart (show IsS31 w0 _ g E0 E1 from by repeat (first | (with_reducible first | exact HI0.out | apply IsS31.alloc | apply IsS31.drewN | apply IsS31.drew) | exact HI0.out)) (by (with_reducible repeat (first | apply Kd.R_alloc | apply Kd.R_drewN | apply Kd.R_drew)); exact HO161.out) (by decide)) hk (fun _ h => h.2)) (fun _ h => h.1))
           have n2_ := Aside0.mk (KeepBut.trans (by repeat (first | (with_reducible first | exact HK.out | apply KeepBut.set_ | apply keep_drewN | apply keep_drew | apply keep_alloc) | exact HK.out)) hk (.inl rfl))
           have n3_ := Aside0.mk (hb)
           have n4_ := Aside0.mk (hi)
           clear HO_3
           clear HO161
           clear HK
           clear HB
           clear HI0
           have HO_3 := n0_
           have HO161 := n1_
           have HK := n2_
           have HB := n3_
           have HI0 := n4_
           clear n0_ n1_ n2_ n3_ n4_
           (try clear hb)
           (try clear hb2)
           (try clear hk)
           (try clear hi)
           refine hK.out _ _ trivial (fun hHeld => ?_)
           clear hK K
           refine nm_ (some 76) ?_
           refine pu_ 11 (some 77) HT_ ?_
           exact norm_ (by first | (simp only [putAll, Act.put, List.setIfInBounds_toArray, List.set_cons_zero, List.set_cons_succ]; done) | (simp only [putAll, Act.put, List.setIfInBounds_toArray, List.set_cons_zero, List.set_cons_succ]; rfl)) (hJ3_4_7_10 (v160) _ ⟨(by (with_reducible repeat (first | apply Kd.R_alloc | apply Kd.R_drewN | apply Kd.R_drew)); exact HO161.out), (by (with_reducible repeat (first | apply Kd.R_alloc | apply Kd.R_drewN | apply Kd.R_drew)); exact HO_3.out), (by repeat (first | (with_reducible first | exact HI0.out | apply IsS31.alloc | apply IsS31.drewN | apply IsS31.drew) | exact HI0.out)), (by repeat (first | (with_reducible first | exact HK.out | apply KeepBut.set_ | apply keep_drewN | apply keep_drew | apply keep_alloc) | exact HK.out)), (by repeat (first | (with_reducible first | exact HB.out | apply bwA | apply pwN | apply bw1 | refine below_set ?_ (IsS31.ge HI0.out)) | exact HB.out))⟩)
         rintro v160 w28 ⟨h0_, h1_, h2_, h3_, h4_⟩
         have n0_ : Aside0 (Kd.R (Kd.int .u8) 5 w28 w.heap.size (fun _ => True) v160 y159) := ⟨h0_⟩
         have n1_ : Aside0 (Kd.R k108 108 w28 w.heap.size (fun _ => True) (.slice Ao21 x3_2.length co21) x3_2) := ⟨h1_⟩
         have n2_ : Aside0 (IsS31 w0 w28 g E0 E1) := ⟨h2_⟩
         have n3_ : Aside0 (KeepBut w w28 g none) := ⟨h3_⟩
         have n4_ : Aside0 (Below w0.heap.size w0 w28) := ⟨h4_⟩
         clear HO_3
         clear HI0
         clear HK
         clear HB
         clear h0_ h1_ h2_ h3_ h4_
         have HO161 := n0_
         have HO_3 := n1_
         have HI0 := n2_
         have HK := n3_
         have HB := n4_
         clear n0_ n1_ n2_ n3_ n4_
         have hHeld := trivial
         refine norm_ (a' := ?_) ?_ ?_
         rotate_left
         ·simp only [putAll, Act.put, List.setIfInBounds_toArray, List.set_cons_zero, List.set_cons_succ]
          rfl
         refine pu_ 12 (some 78) HT_ ?_
         refine on_ 13 (some 79) HT_ fun K hK => ?_
         refine value_ (w1 := ?_) (v := ?_) (by rfl) rfl ?_ ?_
         rotate_left 2
         ·go_simp
          constructor
          ·rfl
          ·rfl
         refine hK.out _ _ trivial (fun hHeld => ?_)
         clear hK K
         refine nm_ (some 79) ?_
         refine on_ 14 (some 80) HT_ fun K hK => ?_
         refine Kd.R_append_step k108 w.heap.size (by rfl) (.tmp 66) (.tmp 79) 58 108 (.agg #[(.string ⟨#[]⟩), (.int .i64 0)]) 24 rfl Try.underlying58 info108 rfl (by decide) (by omega) (.slice Ao21 x3_2.length co21) x3_2 (⟨strOfNums y159, wrap64 (t162 - t163)⟩ : S108) [.string (strOfNums y159), .int .i64 (wrap64 (t162 - t163))] (fun _ => True) (fun _ => False) rfl rfl ?aP (fun _ hk => hk.elim) ?aF ?aO (Below.refl _ _) ?aS ?aL ?_
         (case aP => exact k108_mkM _ _ _ (⟨strOfNums y159, wrap64 (t162 - t163)⟩ : S108))
         (case aF => exact (fun _ _ => trivial))
         (case aO => exact (by (with_reducible repeat (first | apply Kd.R_alloc | apply Kd.R_drewN | apply Kd.R_drew)); exact HO_3.out))
         (case aS => exact (keep_size (w := w) (g := g) (row := none) (by repeat (first | (with_reducible first | exact HK.out | apply KeepBut.set_ | apply keep_drewN | apply keep_drew | apply keep_alloc) | exact HK.out))))
         (case aL => have := LMc19.out; omega)
         intro v165 w29 ho hb hg hat
         rw [← Ny164.out] at ho
         have n0_ := Aside0.mk (IsS31.grown (by repeat (first | (with_reducible first | exact HI0.out | apply IsS31.alloc | apply IsS31.drewN | apply IsS31.drew) | exact HI0.out)) hg (IsS31.own_ne HI0.out HO_3.out (by decide)))
         have n1_ := Aside0.mk (Kd.R_over' (by (with_reducible repeat (first | apply Kd.R_alloc | apply Kd.R_drewN | apply Kd.R_drew)); exact HO161.out) (Kd.R_typed (by (with_reducible repeat (first | apply Kd.R_alloc | apply Kd.R_drewN | apply Kd.R_drew)); exact HO_3.out)) (by decide) hg)
         have n2_ := Aside0.mk (below_weaken (by repeat (first | (with_reducible first | exact HB.out | apply bwA | apply pwN | apply bw1 | refine below_set ?_ (IsS31.ge HI0.out)) | exact HB.out)) HL.out hb)
         have n3_ := Aside0.mk (KeepBut.trans (by repeat (first | (with_reducible first | exact HK.out | apply KeepBut.set_ | apply keep_drewN | apply keep_drew | apply keep_alloc) | exact HK.out)) (KeepBut.of_grown hg g) (Kd.R_base2 HO_3.out))
         have n4_ := Aside0.mk (ho)
         clear HI0
         clear HO161
         clear HB
         clear HK
         clear HO_3
         have HI0 := n0_
         have HO161 := n1_
         have HB := n2_
         have HK := n3_
         have HO166 := n4_
         clear n0_ n1_ n2_ n3_ n4_
         clear ho hb hg hat
         refine hK.out _ _ trivial (fun hHeld => ?_)
         clear hK K
         refine nm_ (some 80) ?_
         refine pu_ 15 (some 3) HT_ ?_
         refine done_ (done_of HT_.out (by kernel_rfl)) ?_
         try go_wp2
         go_roundg k2
         case measure => have := HK1.out; have := HK2.out; omega
         case rel => exact ⟨(y164), (wrap64 (x5_2 + 1)), (by first | rfl | (simp; done) | (simp [*]; done)), H', ⟨by have := HK1.out; have := HK2.out; omega⟩, ⟨by (with_reducible repeat (first | apply Kd.R_alloc | apply Kd.R_drewN | apply Kd.R_drew)); exact HO166.out⟩, ⟨by repeat (first | (with_reducible first | exact HI0.out | apply IsS31.alloc | apply IsS31.drewN | apply IsS31.drew) | exact HI0.out)⟩, ⟨by repeat (first | (with_reducible first | exact HK.out | apply KeepBut.set_ | apply keep_drewN | apply keep_drew | apply keep_alloc) | exact HK.out)⟩, ⟨by repeat (first | (with_reducible first | exact HB.out | apply bwA | apply pwN | apply bw1 | refine below_set ?_ (IsS31.ge HI0.out)) | exact HB.out)⟩⟩
        ·rw [if_neg c19] at H
         exact absurd H (by simp)
       ·rw [if_neg c16] at H
        exact absurd H (by simp)
      ·rw [if_neg c15] at H
       have c15b0 : decide (x5_2 < (E1.length : Int)) = false := decide_eq_false c15
       clear c15
       obtain rfl := Option.some.inj H
       obtain ⟨ASz30_0, cSz30_0, ASz30_1, cSz30_1, HGz30, hgz30, HSz30_0, HSz30_1⟩ := HI0.out
       have hcz30_0 := cellS31_0 HGz30
       have hcz30_1 := cellS31_1 HGz30
       clear HGz30 hgz30
       go_wp2
       go_ret
       exact ⟨_, by first | rfl | (simp [errW_none, errW_some] <;> rfl) | (simp [*, errW_none, errW_some] <;> rfl), by (with_reducible repeat (first | apply Kd.R_alloc | apply Kd.R_drewN | apply Kd.R_drew)); exact HO_3.out, by repeat (first | (with_reducible first | exact HI0.out | apply IsS31.alloc | apply IsS31.drewN | apply IsS31.drew) | exact HI0.out), by repeat (first | (with_reducible first | exact HB.out | apply bwA | apply pwN | apply bw1 | refine below_set ?_ (IsS31.ge HI0.out)) | exact HB.out), by repeat (first | (with_reducible first | exact HK.out | apply KeepBut.set_ | apply keep_drewN | apply keep_drew | apply keep_alloc) | exact HK.out)⟩
end Go.Proofs.Ytlepbhlbooajmaa.Q
