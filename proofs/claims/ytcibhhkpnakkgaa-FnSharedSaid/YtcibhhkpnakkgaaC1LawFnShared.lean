/- Contracts and plain laws of functions of the given program; no conditions beside those in the theorems. -/
import Derived.Test.YtcibhhkpnakkgaaProg
import Derived.Below
import Derived.Deep.Draws
import Derived.Deep.AppendLies
import Derived.Maps.AppendAt
import Derived.OwnWalk
import Derived.Laws.BytesArg
import Derived.Laws.MakeOwn
import Derived.Laws.OwnMore
import Derived.Deep.OwnRows
import Derived.Tactics
import Derived.Lib.ConvBytes
import Derived.Laws.Slices
import Derived.WalkKit
import Derived.KernelRfl
import Derived.RowKit3
import Derived.Deep.LoopGhost
import Derived.Deep.QuietTactic
import Derived.BigQuiet
import Derived.WideLaws
import Derived.Deep.DeepCutAuto
import Derived.Deep.CutBlock
import Derived.Deep.RegionHeld3
import Derived.Laws.Rows
import Derived.Lib.AppendStr
import Derived.ArgAppend
import Derived.Laws.IdiomCopy
import Derived.OrdersHeld
import Derived.Laws.BitsLemmas
import Derived.RowKit
import Derived.Test.YtcibhhkpnakkgaaWWords
import Derived.Test.YtcibhhkpnakkgaaWLast
import Derived.Test.YtcibhhkpnakkgaaWTab
import Derived.Test.YtcibhhkpnakkgaaWFour
import Derived.Test.YtcibhhkpnakkgaaWQPut
import Derived.Test.YtcibhhkpnakkgaaWApart
import Derived.Test.YtcibhhkpnakkgaaWArr
import Derived.Test.YtcibhhkpnakkgaaWZeros
import Derived.Test.YtcibhhkpnakkgaaWFoot
import Derived.Test.YtcibhhkpnakkgaaWKept
import Derived.Test.YtcibhhkpnakkgaaWShare
import Derived.Test.YtcibhhkpnakkgaaWN
import Derived.Test.YtcibhhkpnakkgaaWFootNe
import Derived.Test.YtcibhhkpnakkgaaWAt
import Derived.Test.YtcibhhkpnakkgaaWEqStruct
import Derived.Test.YtcibhhkpnakkgaaWRepsOne
import Derived.Test.YtcibhhkpnakkgaaWInv
import Derived.Test.YtcibhhkpnakkgaaWInvWords
import Derived.Test.YtcibhhkpnakkgaaWGuard
import Derived.Test.YtcibhhkpnakkgaaWNEv
import Derived.Test.YtcibhhkpnakkgaaWMore
import Derived.Test.YtcibhhkpnakkgaaC0LawFnShared
import Derived.WalkSpells
import Derived.Laws.EntriesVeiled
namespace Go.Proofs.Ytcibhhkpnakkgaa.Ext
end Go.Proofs.Ytcibhhkpnakkgaa.Ext
namespace Go.Proofs.Ytcibhhkpnakkgaa.Q
open Go.Proofs.Ytcibhhkpnakkgaa.Ext
open Go.RowKit Go.Proofs.YtcibhhkpnakkgaaW.PrintWords Go.Proofs.YtcibhhkpnakkgaaW.PrintLast Go.Proofs.YtcibhhkpnakkgaaW.PrintMore
attribute [local go_sem] max2_int min2_int max_two min_two max_three min_three max_four min_four
set_option linter.unusedVariables false
set_option linter.unusedSimpArgs false
def errW : Option Int → Value
  | none => .nilIface
  | some c => .iface 0 (.int .i64 c)
theorem errW_none : errW none = .nilIface := rfl
theorem errW_some (c : Int) : errW (some c) = .iface 0 (.int .i64 c) := rfl
theorem info2 : (Try.prog.info? 2).map (fun i => (i.zero, i.size, i.bytes)) = some (some (.int .i64 0), 1, 8) := by kernel_rfl
theorem info24 : (Try.prog.info? 24).map (fun i => (i.zero, i.size, i.bytes)) = some (some (.slice none 0 0), 1, 24) := by kernel_rfl
def rd_L1 (xs : List (List Int)) (i : Int) : (List Int) := xs.getD i.toNat ([] : List Int)
theorem at_L1 {w : World} {A : Option Addr} {n : Nat} {xs : List (List Int)} (h : Kd.C (Kd.slice 2 (Kd.int .i64)) w A n xs) (i : Int) (h0 : 0 ≤ i) (h1 : i < n) : ∃ ad A0 c0, A = some ad ∧ w.cell? (ad.add i.toNat) = some (.slice A0 (rd_L1 xs i).length c0) ∧ (rd_L1 xs i).length ≤ c0 ∧ (Kd.int .i64).C w A0 (rd_L1 xs i).length (rd_L1 xs i) := by
  obtain ⟨ad, c, e, _, hK, hc0⟩ := Kd.C_get h ([] : List Int) i h0 h1
  have hc : ∀ j u, c[j]? = some u → w.cell? (ad.add (i.toNat * 1 + j)) = some u := hc0
  obtain ⟨A0, c0, rfl, l0, g0⟩ := hK
  exact ⟨ad, A0, c0, e, by have hq := hc 0 _ rfl; rwa [Nat.mul_one, Nat.add_zero] at hq, l0, g0⟩
end Go.Proofs.Ytcibhhkpnakkgaa.Q
namespace Go.Proofs.Ytcibhhkpnakkgaa.Ext
end Go.Proofs.Ytcibhhkpnakkgaa.Ext
namespace Go.Proofs.Ytcibhhkpnakkgaa.Q
open Go.Proofs.Ytcibhhkpnakkgaa.Ext
open Go.RowKit Go.Proofs.YtcibhhkpnakkgaaW.PrintWords Go.Proofs.YtcibhhkpnakkgaaW.PrintLast Go.Proofs.YtcibhhkpnakkgaaW.PrintMore
attribute [local go_sem] max2_int min2_int max_two min_two max_three min_three max_four min_four
set_option linter.unusedVariables false
set_option linter.unusedSimpArgs false
def impl_within.f (a0 a1 a2 : Int) : Option (Bool) := if a1 ≤ a0 then (some (decide (a0 ≤ a2))) else (some false)
set_option maxHeartbeats 8000000 in
set_option maxRecDepth 100000 in
theorem impl_within.calls (a0 a1 a2 : Int) (r : Bool) (w : World) (h : impl_within.f a0 a1 a2 = some r) :
    Calls Try.prog 47 #[.int .i64 a0, .int .i64 a1, .int .i64 a2] w fun e w' => e = .returned (.bool r) ∧ Drawn0 w w' := by
  have H : (if a1 ≤ a0 then (some (decide (a0 ≤ a2))) else (some false)) = some r := h
  clear h
  by_cases c4 : a1 ≤ a0
  · rw [if_pos c4] at H
    have c4b0 : decide (a1 ≤ a0) = true := decide_eq_true c4
    clear c4
    obtain rfl := Option.some.inj H
    go_enter Try.func47, Try.ntmps47
    go_wp2
    go_ret
    exact ⟨by first | rfl | (simp; done) | (simp [*]; done), by repeat (first | exact Drawn0.refl _ | apply Drawn0.step)⟩
  · rw [if_neg c4] at H
    have c4b0 : decide (a1 ≤ a0) = false := decide_eq_false c4
    clear c4
    obtain rfl := Option.some.inj H
    go_enter Try.func47, Try.ntmps47
    go_wp2
    go_ret
    exact ⟨by first | rfl | (simp; done) | (simp [*]; done), by repeat (first | exact Drawn0.refl _ | apply Drawn0.step)⟩
def impl_unless.f (a0 : Bool) (a1 : Int) : Option (Int) := if a0 = true then (some 0) else (some a1)
set_option maxHeartbeats 8000000 in
set_option maxRecDepth 100000 in
theorem impl_unless.calls (a0 : Bool) (a1 : Int) (r : Int) (w : World) (h : impl_unless.f a0 a1 = some r) :
    Calls Try.prog 49 #[.bool a0, .int .i64 a1] w fun e w' => e = .returned (.int .i64 r) ∧ Drawn0 w w' := by
  have H : (if a0 = true then (some 0) else (some a1)) = some r := h
  clear h
  by_cases c3 : a0 = true
  · subst c3
    have H1 : (some 0) = some r := by rw [if_pos rfl] at H; exact H
    clear H
    have H := H1
    clear H1
    obtain rfl := Option.some.inj H
    go_enter Try.func49, Try.ntmps49
    go_wp2
    go_ret
    exact ⟨by first | rfl | (simp; done) | (simp [*]; done), by repeat (first | exact Drawn0.refl _ | apply Drawn0.step)⟩
  · replace c3 := Bool.eq_false_iff.mpr c3
    subst c3
    have H1 : (some a1) = some r := by rw [if_neg (show ¬ (false = true) by decide)] at H; exact H
    clear H
    have H := H1
    clear H1
    obtain rfl := Option.some.inj H
    go_enter Try.func49, Try.ntmps49
    go_wp2
    go_ret
    exact ⟨by first | rfl | (simp; done) | (simp [*]; done), by repeat (first | exact Drawn0.refl _ | apply Drawn0.step)⟩
def impl_timesCode.f (l0 : List Int) (a1 a2 a3 : Int) : Option (Int) := (impl_within.f a1 1 a2).bind fun t101 => (if t101 = true then ((slices_ContainsFunc_int64_int64_at_impl_timesCode_1.f l0 ()).bind fun t102 => (if t102 = true then (some 2) else ((impl_unless.f (decide ((l0.length : Int) ≤ a3)) 3).bind fun t103 => (some t103)))) else (some 2))
set_option maxHeartbeats 8000000 in
set_option maxRecDepth 100000 in
theorem impl_timesCode.calls (A0 : Option Addr) (c0 : Nat) (l0 : List Int) (a1 a2 a3 r : Int) (w : World) (hr0 : Kd.C (Kd.int .i64) w A0 l0.length l0) (hc0 : l0.length ≤ c0) (h : impl_timesCode.f l0 a1 a2 a3 = some r) :
    Calls Try.prog 21 #[.slice A0 l0.length c0, .int .i64 a1, .int .i64 a2, .int .i64 a3] w fun e w' => e = .returned (.int .i64 r) ∧ Below w.heap.size w w' := by
  have HR0 := Aside0.mk hr0
  have HC0 := Aside0.mk hc0
  clear hr0 hc0
  have HB := Aside0.mk (Below.refl w.heap.size w)
  have H : ((impl_within.f a1 1 a2).bind fun t101 => (if t101 = true then ((slices_ContainsFunc_int64_int64_at_impl_timesCode_1.f l0 ()).bind fun t102 => (if t102 = true then (some 2) else ((impl_unless.f (decide ((l0.length : Int) ≤ a3)) 3).bind fun t103 => (some t103)))) else (some 2))) = some r := h
  clear h
  replace H := Option.bind_eq_some_iff.mp H
  obtain ⟨t101, A50, H⟩ := H
  replace H : (if t101 = true then ((slices_ContainsFunc_int64_int64_at_impl_timesCode_1.f l0 ()).bind fun t102 => (if t102 = true then (some 2) else ((impl_unless.f (decide ((l0.length : Int) ≤ a3)) 3).bind fun t103 => (some t103)))) else (some 2)) = some r := H
  have A5 := Aside0.mk A50
  clear A50
  by_cases c6 : t101 = true
  · subst c6
    have H1 : ((slices_ContainsFunc_int64_int64_at_impl_timesCode_1.f l0 ()).bind fun t102 => (if t102 = true then (some 2) else ((impl_unless.f (decide ((l0.length : Int) ≤ a3)) 3).bind fun t103 => (some t103)))) = some r := by rw [if_pos rfl] at H; exact H
    clear H
    have H := H1
    clear H1
    replace H := Option.bind_eq_some_iff.mp H
    obtain ⟨t102, A70, H⟩ := H
    replace H : (if t102 = true then (some 2) else ((impl_unless.f (decide ((l0.length : Int) ≤ a3)) 3).bind fun t103 => (some t103))) = some r := H
    have A7 := Aside0.mk A70
    clear A70
    by_cases c8 : t102 = true
    · subst c8
      have H1 : (some 2) = some r := by rw [if_pos rfl] at H; exact H
      clear H
      have H := H1
      clear H1
      obtain rfl := Option.some.inj H
      go_enter Try.func21, Try.ntmps21
      go_wp2_with (first | ((with_reducible refine gate_callee (f := 47) rfl ?_); refine goesL_ (some 11) rfl rfl Try.func47 (by kernel_rfl) rfl #[.int .i64 a1, .int .i64 1, .int .i64 a2] rfl (by (try simp only [List.map_toArray, List.map_cons, List.map_nil]); first | done | rfl | (simp only [List.length_drop, List.length_take]; rfl)) ?_; (with_reducible refine (impl_within.calls a1 1 a2 true _ A5.out).mono ?_); rintro e w' ⟨rfl, ⟨nd, rfl⟩⟩; refine ⟨_, rfl, ?_⟩) | (go_at_call 31; (with_reducible refine (slices_ContainsFunc_int64_int64_at_impl_timesCode_1.calls _ _ l0 () true _ ?side1 ?side2 A7.out).mono ?_); (case side1 => repeat (first | exact HR0.out | (with_reducible refine Kd.C_alloc ?_ _) | (with_reducible refine Kd.C_drewN ?_ _) | (with_reducible refine Kd.C_drew ?_))); (case side2 => exact HC0.out); rintro e w9 ⟨rfl, hb⟩; have n0_ := Aside0.mk (below_step (by repeat (first | (with_reducible first | exact HB.out | apply below_alloc | apply pw_below_drewN | apply below_drew1) | exact HB.out)) hb); clear HB; have HB := n0_; clear n0_; (try clear hb); (try clear hb2); (try clear hk); (try clear hi)))
      go_ret
      exact ⟨by first | rfl | (simp [errW_none, errW_some] <;> rfl) | (simp [*, errW_none, errW_some] <;> rfl), by repeat (first | (with_reducible first | exact HB.out | apply below_alloc | apply pw_below_drewN | apply below_drew1) | exact HB.out)⟩
    · replace c8 := Bool.eq_false_iff.mpr c8
      subst c8
      have H1 : ((impl_unless.f (decide ((l0.length : Int) ≤ a3)) 3).bind fun t103 => (some t103)) = some r := by rw [if_neg (show ¬ (false = true) by decide)] at H; exact H
      clear H
      have H := H1
      clear H1
      replace H := Option.bind_eq_some_iff.mp H
      obtain ⟨t103, A100, H⟩ := H
      replace H : (some t103) = some r := H
      have A10 := Aside0.mk A100
      clear A100
      obtain rfl := Option.some.inj H
      go_enter Try.func21, Try.ntmps21
      go_wp2_with (first | ((with_reducible refine gate_callee (f := 47) rfl ?_); refine goesL_ (some 11) rfl rfl Try.func47 (by kernel_rfl) rfl #[.int .i64 a1, .int .i64 1, .int .i64 a2] rfl (by (try simp only [List.map_toArray, List.map_cons, List.map_nil]); first | done | rfl | (simp only [List.length_drop, List.length_take]; rfl)) ?_; (with_reducible refine (impl_within.calls a1 1 a2 true _ A5.out).mono ?_); rintro e w' ⟨rfl, ⟨nd, rfl⟩⟩; refine ⟨_, rfl, ?_⟩) | (go_at_call 31; (with_reducible refine (slices_ContainsFunc_int64_int64_at_impl_timesCode_1.calls _ _ l0 () false _ ?side1 ?side2 A7.out).mono ?_); (case side1 => repeat (first | exact HR0.out | (with_reducible refine Kd.C_alloc ?_ _) | (with_reducible refine Kd.C_drewN ?_ _) | (with_reducible refine Kd.C_drew ?_))); (case side2 => exact HC0.out); rintro e w11 ⟨rfl, hb⟩; have n0_ := Aside0.mk (below_step (by repeat (first | (with_reducible first | exact HB.out | apply below_alloc | apply pw_below_drewN | apply below_drew1) | exact HB.out)) hb); clear HB; have HB := n0_; clear n0_; (try clear hb); (try clear hb2); (try clear hk); (try clear hi)) | ((with_reducible refine gate_callee (f := 49) rfl ?_); refine goesL_ (some 21) rfl rfl Try.func49 (by kernel_rfl) rfl #[.bool (decide ((l0.length : Int) ≤ a3)), .int .i64 3] rfl (by (try simp only [List.map_toArray, List.map_cons, List.map_nil]); first | done | rfl | (simp only [List.length_drop, List.length_take]; rfl)) ?_; (with_reducible refine (impl_unless.calls (decide ((l0.length : Int) ≤ a3)) 3 t103 _ A10.out).mono ?_); rintro e w' ⟨rfl, ⟨nd, rfl⟩⟩; refine ⟨_, rfl, ?_⟩))
      go_ret
      exact ⟨by first | rfl | (simp [errW_none, errW_some] <;> rfl) | (simp [*, errW_none, errW_some] <;> rfl), by repeat (first | (with_reducible first | exact HB.out | apply below_alloc | apply pw_below_drewN | apply below_drew1) | exact HB.out)⟩
  · replace c6 := Bool.eq_false_iff.mpr c6
    subst c6
    have H1 : (some 2) = some r := by rw [if_neg (show ¬ (false = true) by decide)] at H; exact H
    clear H
    have H := H1
    clear H1
    obtain rfl := Option.some.inj H
    go_enter Try.func21, Try.ntmps21
    go_wp2_with (first | ((with_reducible refine gate_callee (f := 47) rfl ?_); refine goesL_ (some 11) rfl rfl Try.func47 (by kernel_rfl) rfl #[.int .i64 a1, .int .i64 1, .int .i64 a2] rfl (by (try simp only [List.map_toArray, List.map_cons, List.map_nil]); first | done | rfl | (simp only [List.length_drop, List.length_take]; rfl)) ?_; (with_reducible refine (impl_within.calls a1 1 a2 false _ A5.out).mono ?_); rintro e w' ⟨rfl, ⟨nd, rfl⟩⟩; refine ⟨_, rfl, ?_⟩))
    go_ret
    exact ⟨by first | rfl | (simp [errW_none, errW_some] <;> rfl) | (simp [*, errW_none, errW_some] <;> rfl), by repeat (first | (with_reducible first | exact HB.out | apply below_alloc | apply pw_below_drewN | apply below_drew1) | exact HB.out)⟩
end Go.Proofs.Ytcibhhkpnakkgaa.Q
namespace Go.Proofs.Ytcibhhkpnakkgaa.Ext
end Go.Proofs.Ytcibhhkpnakkgaa.Ext
namespace Go.Proofs.Ytcibhhkpnakkgaa.Q
open Go.Proofs.Ytcibhhkpnakkgaa.Ext
open Go.RowKit Go.Proofs.YtcibhhkpnakkgaaW.PrintWords Go.Proofs.YtcibhhkpnakkgaaW.PrintLast Go.Proofs.YtcibhhkpnakkgaaW.PrintMore
attribute [local go_sem] max2_int min2_int max_two min_two max_three min_three max_four min_four
set_option linter.unusedVariables false
set_option linter.unusedSimpArgs false
def impl_total.l0 : Nat → Int → List Int → Int → Int → Option (Int)
  | 0, _, _, _, _ => none
  | k + 1, x3, x6, x7, x8 => if x8 < x7 then (if 0 ≤ x8 then (if x8 < (x6.length : Int) then (impl_total.l0 k (wrap64 (x3 + (rd x6 x8))) x6 x7 (wrap64 (x8 + 1))) else (none)) else (none)) else (some x3)
def impl_total.f (k : Nat) (l0 : List Int) : Option (Int) := impl_total.l0 k 0 l0 (l0.length : Int) 0
theorem impl_total.mono_l : ∀ k, (∀ y0 y1 y2 y3, LeO (impl_total.l0 k y0 y1 y2 y3) (impl_total.l0 (k + 1) y0 y1 y2 y3))
  | 0 => fun _ _ _ _ r h => by simp [impl_total.l0] at h
  | k + 1 => by
    have ih0 := impl_total.mono_l k
    · intro y0 y1 y2 y3
      unfold impl_total.l0
      repeat' first
      | (with_reducible exact ih0 _ _ _ _)
      | (with_reducible exact LeO.refl _)
      | (with_reducible exact LeO.none _)
      | (with_reducible refine LeO.ite ?_ ?_)
      | (with_reducible refine LeO.bind ?_ (fun _ => ?_))
      | exact ih0 _ _ _ _
      | exact LeO.none _
      | refine LeO.ite ?_ ?_
      | refine LeO.bind ?_ (fun _ => ?_)
theorem impl_total.mono : ∀ a0 k, LeO (impl_total.f k a0) (impl_total.f (k + 1) a0) := by
  intro a0 k
  have ih0 := impl_total.mono_l k
  unfold impl_total.f
  repeat' first
      | (with_reducible exact ih0 _ _ _ _)
      | (with_reducible exact LeO.refl _)
      | (with_reducible exact LeO.none _)
      | (with_reducible refine LeO.ite ?_ ?_)
      | (with_reducible refine LeO.bind ?_ (fun _ => ?_))
      | exact ih0 _ _ _ _
      | exact LeO.none _
      | refine LeO.ite ?_ ?_
      | refine LeO.bind ?_ (fun _ => ?_)
set_option maxHeartbeats 8000000 in
set_option maxRecDepth 100000 in
theorem impl_total.calls (k : Nat) (A0 : Option Addr) (c0 : Nat) (l0 : List Int) (r : Int) (w : World) (hr0 : Kd.C (Kd.int .i64) w A0 l0.length l0) (hc0 : l0.length ≤ c0) (h : impl_total.f k l0 = some r) :
    Calls Try.prog 23 #[.slice A0 l0.length c0] w fun e w' => e = .returned (.int .i64 r) ∧ Drawn0 w w' := by
  have HR0 := Aside0.mk hr0
  have HC0 := Aside0.mk hc0
  clear hr0 hc0
  have H : (impl_total.l0 k 0 l0 (l0.length : Int) 0) = some r := h
  clear h
  have H' := Aside0.mk H
  clear H
  go_enter Try.func23, Try.ntmps23
  go_wp2
  go_loopg [3, 8] k (fun kq v3 v8 w' => ∃ (x3_1 : Int) (x8_1 : Int), v3 = .int .i64 x3_1 ∧ v8 = .int .i64 x8_1 ∧ Aside0 (impl_total.l0 kq x3_1 l0 (l0.length : Int) x8_1 = some r) ∧ Aside0 (kq ≤ k) ∧ Drawn0 w w')
  case atStart => exact ⟨(0), (0), (by first | rfl | (simp; done) | (simp [*]; done)), (by first | rfl | (simp; done) | (simp [*]; done)), H', ⟨Nat.le_refl _⟩, by repeat (first | exact Drawn0.refl _ | apply Drawn0.step)⟩
  case round =>
    clear H'
    obtain ⟨x3_1, x8_1, rfl, rfl, HA, HK1, ⟨m1, rfl⟩⟩ := hrel
    cases gk with
    | zero => exact absurd HA.out (by simp [impl_total.l0])
    | succ k1 =>
      have H := HA.out
      clear HA
      simp only [impl_total.l0] at H
      by_cases c2 : x8_1 < (l0.length : Int)
      · rw [if_pos c2] at H
        have c2b0 : decide (x8_1 < (l0.length : Int)) = true := decide_eq_true c2
        clear c2
        by_cases c3 : 0 ≤ x8_1
        · rw [if_pos c3] at H
          have c3b0 : decide (0 ≤ x8_1) = true := decide_eq_true c3
          clear c3
          by_cases c4 : x8_1 < (l0.length : Int)
          · rw [if_pos c4] at H
            have c4b0 : decide (x8_1 < (l0.length : Int)) = true := decide_eq_true c4
            clear c4
            have H' := Aside0.mk H
            clear H
            have p104 : 0 ≤ (x8_1 : Int) := of_decide_eq_true (by first | (with_reducible assumption) | assumption)
            have q104 : x8_1 < (l0.length : Int) := of_decide_eq_true (by first | (with_reducible assumption) | assumption)
            obtain ⟨ad104, e104, hx104_0⟩ := Kd.at_int HR0.out x8_1 p104 q104
            cases e104
            replace p104 := eq_true p104
            replace q104 := eq_true q104
            go_wp2
            go_roundg k1
            case measure => have := HK1.out; omega
            case rel => exact ⟨(wrap64 (x3_1 + (rd l0 x8_1))), (wrap64 (x8_1 + 1)), (by first | rfl | (simp; done) | (simp [*]; done)), (by first | rfl | (simp; done) | (simp [*]; done)), H', ⟨by have := HK1.out; omega⟩, by repeat (first | exact Drawn0.refl _ | apply Drawn0.step)⟩
          · rw [if_neg c4] at H
            exact absurd H (by simp)
        · rw [if_neg c3] at H
          exact absurd H (by simp)
      · rw [if_neg c2] at H
        have c2b0 : decide (x8_1 < (l0.length : Int)) = false := decide_eq_false c2
        clear c2
        obtain rfl := Option.some.inj H
        go_wp2
        go_ret
        exact ⟨by first | rfl | (simp; done) | (simp [*]; done), by repeat (first | exact Drawn0.refl _ | apply Drawn0.step)⟩
end Go.Proofs.Ytcibhhkpnakkgaa.Q
namespace Go.Proofs.Ytcibhhkpnakkgaa.Ext
end Go.Proofs.Ytcibhhkpnakkgaa.Ext
namespace Go.Proofs.Ytcibhhkpnakkgaa.Q
open Go.Proofs.Ytcibhhkpnakkgaa.Ext
open Go.RowKit Go.Proofs.YtcibhhkpnakkgaaW.PrintWords Go.Proofs.YtcibhhkpnakkgaaW.PrintLast Go.Proofs.YtcibhhkpnakkgaaW.PrintMore
attribute [local go_sem] max2_int min2_int max_two min_two max_three min_three max_four min_four
set_option linter.unusedVariables false
set_option linter.unusedSimpArgs false
def impl_inOrder.l0 : Nat → Int → List Int → Int → Int → List Int → Int → Int → Option (List Int)
  | 0, _, _, _, _, _, _, _ => none
  | k + 1, x1, x5, x6, x7, x11, x12, x13 => if x13 < x12 then (if 0 ≤ x13 then (if x13 < (x11.length : Int) then (if (wrap64 (x7 + (rd x11 x13))) > x1 then (if x5.length < 17592186044416 then (impl_inOrder.l0 k x1 (x5 ++ [wrap64 (x6 + 1)]) (wrap64 (x6 + 1)) (wrap64 (0 + (rd x11 x13))) x11 x12 (wrap64 (x13 + 1))) else (none)) else (if x5.length < 17592186044416 then (impl_inOrder.l0 k x1 (x5 ++ [x6]) x6 (wrap64 (x7 + (rd x11 x13))) x11 x12 (wrap64 (x13 + 1))) else (none))) else (none)) else (none)) else (some x5)
def impl_inOrder.f (k : Nat) (l0 : List Int) (a1 : Int) : Option (List Int) := impl_inOrder.l0 k a1 (([] : List Int)) 0 0 l0 (l0.length : Int) 0
theorem impl_inOrder.mono_l : ∀ k, (∀ y0 y1 y2 y3 y4 y5 y6, LeO (impl_inOrder.l0 k y0 y1 y2 y3 y4 y5 y6) (impl_inOrder.l0 (k + 1) y0 y1 y2 y3 y4 y5 y6))
  | 0 => fun _ _ _ _ _ _ _ r h => by simp [impl_inOrder.l0] at h
  | k + 1 => by
    have ih0 := impl_inOrder.mono_l k
    · intro y0 y1 y2 y3 y4 y5 y6
      unfold impl_inOrder.l0
      repeat' first
      | (with_reducible exact ih0 _ _ _ _ _ _ _)
      | (with_reducible exact LeO.refl _)
      | (with_reducible exact LeO.none _)
      | (with_reducible refine LeO.ite ?_ ?_)
      | (with_reducible refine LeO.bind ?_ (fun _ => ?_))
      | exact ih0 _ _ _ _ _ _ _
      | exact LeO.none _
      | refine LeO.ite ?_ ?_
      | refine LeO.bind ?_ (fun _ => ?_)
theorem impl_inOrder.mono : ∀ a0 a1 k, LeO (impl_inOrder.f k a0 a1) (impl_inOrder.f (k + 1) a0 a1) := by
  intro a0 a1 k
  have ih0 := impl_inOrder.mono_l k
  unfold impl_inOrder.f
  repeat' first
      | (with_reducible exact ih0 _ _ _ _ _ _ _)
      | (with_reducible exact LeO.refl _)
      | (with_reducible exact LeO.none _)
      | (with_reducible refine LeO.ite ?_ ?_)
      | (with_reducible refine LeO.bind ?_ (fun _ => ?_))
      | exact ih0 _ _ _ _ _ _ _
      | exact LeO.none _
      | refine LeO.ite ?_ ?_
      | refine LeO.bind ?_ (fun _ => ?_)
set_option maxHeartbeats 8000000 in
set_option maxRecDepth 100000 in
theorem impl_inOrder.calls (k : Nat) (A0 : Option Addr) (c0 : Nat) (l0 : List Int) (a1 : Int) (r : List Int) (w : World) (hr0 : Kd.C (Kd.int .i64) w A0 l0.length l0) (hc0 : l0.length ≤ c0) (h : impl_inOrder.f k l0 a1 = some r) :
    Calls Try.prog 24 #[.slice A0 l0.length c0, .int .i64 a1] w fun e w' => ∃ v0_ : Value, e = .returned (v0_) ∧ Kd.R (Kd.int .i64) 2 w' w.heap.size (fun _ => True) v0_ r ∧ Below w.heap.size w w' := by
  have HR0 := Aside0.mk hr0
  have HC0 := Aside0.mk hc0
  clear hr0 hc0
  have HB := Aside0.mk (Below.refl w.heap.size w)
  have H : (impl_inOrder.l0 k a1 (([] : List Int)) 0 0 l0 (l0.length : Int) 0) = some r := h
  clear h
  obtain ⟨y105, hy105⟩ : ∃ y_ : List Int, y_ = (([] : List Int)) := ⟨_, rfl⟩
  replace H : (impl_inOrder.l0 k a1 y105 0 0 l0 (l0.length : Int) 0) = some r := by first | (rw [hy105]; with_reducible exact H) | (have H2_ := (Option.bind_some _ _).symm.trans H; rw [hy105]; with_reducible exact H2_) | (have H2_ := (Option.bind_some _ _).symm.trans H; with_reducible exact H2_) | with_reducible exact H | (rw [hy105]; exact H) | exact H
  have Ny105 := Aside0.mk hy105
  clear hy105
  have H' := Aside0.mk H
  clear H
  go_enter Try.func24, Try.ntmps24
  go_wp2_with (first | ((with_reducible refine gate_dst (N := 10) rfl ?_); refine Kd.R_lit (Kd.int .i64) _ 2 ?hg (N := 10) ?hd (xs := ([] : List Int)) (inner := []) (ok := fun _ => True) (okp := fun _ => True) ?hr ?hp (fun _ hk => hk) trivial (Below.refl _ _) (Nat.le_refl _) (by simp) ?_; (case hd => rfl); (case hg => rfl); (case hr => first | (go_simp; done) | (go_simp; rfl)); (case hp => exact (Reps.none _ _)); intro v106 w3 ho4 hb hg_ hnew_; clear hg_ hnew_; (first | rw [← Ny105.out] at ho4 | (simp only [Int.reduceToNat] at ho4; rw [← Ny105.out] at ho4)); have n0_ := Aside0.mk (Kd.R_lower ho4 (below_size (by repeat (first | (with_reducible first | exact HB.out | apply below_alloc | apply pw_below_drewN | apply below_drew1) | exact HB.out)))); have n1_ := Aside0.mk (below_step (by repeat (first | (with_reducible first | exact HB.out | apply below_alloc | apply pw_below_drewN | apply below_drew1) | exact HB.out)) hb); clear HB; have HO107 := n0_; have HB := n1_; clear n0_ n1_; clear hb ho4))
  go_loopg [5, 6, 7, 13] k (fun kq v5 v6 v7 v13 w' => ∃ (x5_1 : List Int) (x6_1 x7_1 x13_1 : Int), v6 = .int .i64 x6_1 ∧ v7 = .int .i64 x7_1 ∧ v13 = .int .i64 x13_1 ∧ Aside0 (impl_inOrder.l0 kq a1 x5_1 x6_1 x7_1 l0 (l0.length : Int) x13_1 = some r) ∧ Aside0 (kq ≤ k) ∧ Aside0 (Kd.R (Kd.int .i64) 2 w' w.heap.size (fun _ => True) v5 x5_1) ∧ Aside0 (Below w.heap.size w w'))
  case atStart => exact ⟨(y105), (0), (0), (0), (by first | rfl | (simp; done) | (simp [*]; done)), (by first | rfl | (simp; done) | (simp [*]; done)), (by first | rfl | (simp; done) | (simp [*]; done)), H', ⟨Nat.le_refl _⟩, ⟨by (with_reducible repeat (first | apply Kd.R_alloc | apply Kd.R_drewN | apply Kd.R_drew)); exact HO107.out⟩, ⟨by repeat (first | (with_reducible first | exact HB.out | apply below_alloc | apply pw_below_drewN | apply below_drew1) | exact HB.out)⟩⟩
  case round =>
    clear H'
    try clear c2
    try clear p2
    obtain ⟨x5_1, x6_1, x7_1, x13_1, rfl, rfl, rfl, HA, HK1, HO_5, HB⟩ := hrel
    cases gk with
    | zero => exact absurd HA.out (by simp [impl_inOrder.l0])
    | succ k1 =>
      have H := HA.out
      clear HA
      simp only [impl_inOrder.l0] at H
      by_cases c5 : x13_1 < (l0.length : Int)
      · rw [if_pos c5] at H
        have c5b0 : decide (x13_1 < (l0.length : Int)) = true := decide_eq_true c5
        clear c5
        by_cases c6 : 0 ≤ x13_1
        · rw [if_pos c6] at H
          have c6b0 : decide (0 ≤ x13_1) = true := decide_eq_true c6
          clear c6
          by_cases c7 : x13_1 < (l0.length : Int)
          · rw [if_pos c7] at H
            have c7b0 : decide (x13_1 < (l0.length : Int)) = true := decide_eq_true c7
            clear c7
            by_cases c8 : (wrap64 (x7_1 + (rd l0 x13_1))) > a1
            · rw [if_pos c8] at H
              have c8b0 : decide (a1 < (wrap64 (x7_1 + (rd l0 x13_1)))) = true := decide_eq_true c8
              clear c8
              by_cases c9 : x5_1.length < 17592186044416
              · rw [if_pos c9] at H
                have LMc9 := Aside0.mk c9
                clear c9
                obtain ⟨y109, hy109⟩ : ∃ y_ : List Int, y_ = (x5_1 ++ [wrap64 (x6_1 + 1)]) := ⟨_, rfl⟩
                replace H : (impl_inOrder.l0 k1 a1 y109 (wrap64 (x6_1 + 1)) (wrap64 (0 + (rd l0 x13_1))) l0 (l0.length : Int) (wrap64 (x13_1 + 1))) = some r := by first | (rw [hy109]; with_reducible exact H) | (have H2_ := (Option.bind_some _ _).symm.trans H; rw [hy109]; with_reducible exact H2_) | (have H2_ := (Option.bind_some _ _).symm.trans H; with_reducible exact H2_) | with_reducible exact H | (rw [hy109]; exact H) | exact H
                have Ny109 := Aside0.mk hy109
                clear hy109
                have H' := Aside0.mk H
                clear H
                have p108 : 0 ≤ (x13_1 : Int) := of_decide_eq_true (by first | (with_reducible assumption) | assumption)
                have q108 : x13_1 < (l0.length : Int) := of_decide_eq_true (by first | (with_reducible assumption) | assumption)
                obtain ⟨ad108, e108, hx108_0⟩ := Kd.at_int HR0.out x13_1 p108 q108
                cases e108
                replace hx108_0 := (HB.out.cell (World.block_lt_of_cell? w _ hx108_0)).trans hx108_0
                replace p108 := eq_true p108
                replace q108 := eq_true q108
                go_wp2_with (first | ((with_reducible refine gate_builtin (b := .append) (xs := #[.tmp 27, .tmp 29]) rfl ?_); at_builtin; refine Kd.R_append (Kd.int .i64) (w0 := w) w.heap.size rfl (.tmp 27) (.tmp 29) 24 2 (.int .i64 0) 8 rfl Try.underlying24 info2 rfl (by decide) (by omega) u5 x5_1 (wrap64 (x6_1 + 1)) [.int .i64 (wrap64 (x6_1 + 1))] (fun _ => True) (fun _ => False) rfl rfl ?aP (fun _ hk => hk.elim) ?aF ?aO ?aB ?aS ?aL ?_; (case aP => exact rfl); (case aB => exact (by repeat (first | (with_reducible first | exact HB.out | apply below_alloc | apply pw_below_drewN | apply below_drew1) | exact HB.out))); (case aF => exact (fun _ _ => trivial)); (case aO => exact (by (with_reducible repeat (first | apply Kd.R_alloc | apply Kd.R_drewN | apply Kd.R_drew)); exact HO_5.out)); (case aS => exact (below_size (by repeat (first | (with_reducible first | exact HB.out | apply below_alloc | apply pw_below_drewN | apply below_drew1) | exact HB.out)))); (case aL => have := LMc9.out; omega); intro v110 w10 ho hb hg hat; rw [← Ny109.out] at ho; have n0_ := Aside0.mk (hb); have n1_ := Aside0.mk (ho); clear HB; clear HO_5; have HB := n0_; have HO111 := n1_; clear n0_ n1_; clear ho hb hg hat))
                go_roundg k1
                case measure => have := HK1.out; omega
                case rel => exact ⟨(y109), (wrap64 (x6_1 + 1)), (wrap64 (0 + (rd l0 x13_1))), (wrap64 (x13_1 + 1)), (by first | rfl | (simp; done) | (simp [*]; done)), (by first | rfl | (simp; done) | (simp [*]; done)), (by first | rfl | (simp; done) | (simp [*]; done)), H', ⟨by have := HK1.out; omega⟩, ⟨by (with_reducible repeat (first | apply Kd.R_alloc | apply Kd.R_drewN | apply Kd.R_drew)); exact HO111.out⟩, ⟨by repeat (first | (with_reducible first | exact HB.out | apply below_alloc | apply pw_below_drewN | apply below_drew1) | exact HB.out)⟩⟩
              · rw [if_neg c9] at H
                exact absurd H (by simp)
            · rw [if_neg c8] at H
              have c8b0 : decide (a1 < (wrap64 (x7_1 + (rd l0 x13_1)))) = false := decide_eq_false c8
              clear c8
              by_cases c11 : x5_1.length < 17592186044416
              · rw [if_pos c11] at H
                have LMc11 := Aside0.mk c11
                clear c11
                obtain ⟨y112, hy112⟩ : ∃ y_ : List Int, y_ = (x5_1 ++ [x6_1]) := ⟨_, rfl⟩
                replace H : (impl_inOrder.l0 k1 a1 y112 x6_1 (wrap64 (x7_1 + (rd l0 x13_1))) l0 (l0.length : Int) (wrap64 (x13_1 + 1))) = some r := by first | (rw [hy112]; with_reducible exact H) | (have H2_ := (Option.bind_some _ _).symm.trans H; rw [hy112]; with_reducible exact H2_) | (have H2_ := (Option.bind_some _ _).symm.trans H; with_reducible exact H2_) | with_reducible exact H | (rw [hy112]; exact H) | exact H
                have Ny112 := Aside0.mk hy112
                clear hy112
                have H' := Aside0.mk H
                clear H
                have p108 : 0 ≤ (x13_1 : Int) := of_decide_eq_true (by first | (with_reducible assumption) | assumption)
                have q108 : x13_1 < (l0.length : Int) := of_decide_eq_true (by first | (with_reducible assumption) | assumption)
                obtain ⟨ad108, e108, hx108_0⟩ := Kd.at_int HR0.out x13_1 p108 q108
                cases e108
                replace hx108_0 := (HB.out.cell (World.block_lt_of_cell? w _ hx108_0)).trans hx108_0
                replace p108 := eq_true p108
                replace q108 := eq_true q108
                go_wp2_with (first | ((with_reducible refine gate_builtin (b := .append) (xs := #[.tmp 27, .tmp 29]) rfl ?_); at_builtin; refine Kd.R_append (Kd.int .i64) (w0 := w) w.heap.size rfl (.tmp 27) (.tmp 29) 24 2 (.int .i64 0) 8 rfl Try.underlying24 info2 rfl (by decide) (by omega) u5 x5_1 x6_1 [.int .i64 x6_1] (fun _ => True) (fun _ => False) rfl rfl ?aP (fun _ hk => hk.elim) ?aF ?aO ?aB ?aS ?aL ?_; (case aP => exact rfl); (case aB => exact (by repeat (first | (with_reducible first | exact HB.out | apply below_alloc | apply pw_below_drewN | apply below_drew1) | exact HB.out))); (case aF => exact (fun _ _ => trivial)); (case aO => exact (by (with_reducible repeat (first | apply Kd.R_alloc | apply Kd.R_drewN | apply Kd.R_drew)); exact HO_5.out)); (case aS => exact (below_size (by repeat (first | (with_reducible first | exact HB.out | apply below_alloc | apply pw_below_drewN | apply below_drew1) | exact HB.out)))); (case aL => have := LMc11.out; omega); intro v113 w12 ho hb hg hat; rw [← Ny112.out] at ho; have n0_ := Aside0.mk (hb); have n1_ := Aside0.mk (ho); clear HB; clear HO_5; have HB := n0_; have HO114 := n1_; clear n0_ n1_; clear ho hb hg hat))
                go_roundg k1
                case measure => have := HK1.out; omega
                case rel => exact ⟨(y112), (x6_1), (wrap64 (x7_1 + (rd l0 x13_1))), (wrap64 (x13_1 + 1)), (by first | rfl | (simp; done) | (simp [*]; done)), (by first | rfl | (simp; done) | (simp [*]; done)), (by first | rfl | (simp; done) | (simp [*]; done)), H', ⟨by have := HK1.out; omega⟩, ⟨by (with_reducible repeat (first | apply Kd.R_alloc | apply Kd.R_drewN | apply Kd.R_drew)); exact HO114.out⟩, ⟨by repeat (first | (with_reducible first | exact HB.out | apply below_alloc | apply pw_below_drewN | apply below_drew1) | exact HB.out)⟩⟩
              · rw [if_neg c11] at H
                exact absurd H (by simp)
          · rw [if_neg c7] at H
            exact absurd H (by simp)
        · rw [if_neg c6] at H
          exact absurd H (by simp)
      · rw [if_neg c5] at H
        have c5b0 : decide (x13_1 < (l0.length : Int)) = false := decide_eq_false c5
        clear c5
        obtain rfl := Option.some.inj H
        go_wp2
        go_ret
        exact ⟨_, by first | rfl | (simp [errW_none, errW_some] <;> rfl) | (simp [*, errW_none, errW_some] <;> rfl), by (with_reducible repeat (first | apply Kd.R_alloc | apply Kd.R_drewN | apply Kd.R_drew)); exact HO_5.out, by repeat (first | (with_reducible first | exact HB.out | apply below_alloc | apply pw_below_drewN | apply below_drew1) | exact HB.out)⟩
end Go.Proofs.Ytcibhhkpnakkgaa.Q
namespace Go.Proofs.Ytcibhhkpnakkgaa.Ext
end Go.Proofs.Ytcibhhkpnakkgaa.Ext
namespace Go.Proofs.Ytcibhhkpnakkgaa.Q
open Go.Proofs.Ytcibhhkpnakkgaa.Ext
open Go.RowKit Go.Proofs.YtcibhhkpnakkgaaW.PrintWords Go.Proofs.YtcibhhkpnakkgaaW.PrintLast Go.Proofs.YtcibhhkpnakkgaaW.PrintMore
attribute [local go_sem] max2_int min2_int max_two min_two max_three min_three max_four min_four
set_option linter.unusedVariables false
set_option linter.unusedSimpArgs false
def impl_ShareLines.l0 : Nat → List Int → Int → Int → Int → Option (List Int × Int × Int)
  | 0, _, _, _, _ => none
  | k + 1, x0, x1, x8, x9 => if x8 < x9 then ((impl_inOrder.f k x0 (wrap64 (Int.tdiv (wrap64 (x8 + x9)) 2))).bind fun t118 => (if 0 ≤ (wrap64 ((t118.length : Int) - 1)) then (if (wrap64 ((t118.length : Int) - 1)) < (t118.length : Int) then (if (rd t118 (wrap64 ((t118.length : Int) - 1))) < x1 then (impl_ShareLines.l0 k x0 x1 x8 (wrap64 (Int.tdiv (wrap64 (x8 + x9)) 2))) else (impl_ShareLines.l0 k x0 x1 (wrap64 ((wrap64 (Int.tdiv (wrap64 (x8 + x9)) 2)) + 1)) x9)) else (none)) else (none))) else ((impl_inOrder.f k x0 x8).bind fun t122 => (some (t122, x8, 0)))
def impl_ShareLines.f (k : Nat) (l0 : List Int) (a1 : Int) : Option (List Int × Int × Int) := (impl_timesCode.f l0 a1 6 12).bind fun t115 => (if t115 = 0 then (if (l0.length : Int) = 0 then (some (([] : List Int), 0, 0)) else ((slices_Max_int64_int64.f l0).bind fun t116 => ((impl_total.f k l0).bind fun t117 => (impl_ShareLines.l0 k l0 a1 t116 t117)))) else (some (([] : List Int), 0, t115)))
theorem impl_ShareLines.mono_l : ∀ k, (∀ y0 y1 y2 y3, LeO (impl_ShareLines.l0 k y0 y1 y2 y3) (impl_ShareLines.l0 (k + 1) y0 y1 y2 y3))
  | 0 => fun _ _ _ _ r h => by simp [impl_ShareLines.l0] at h
  | k + 1 => by
    have ih0 := impl_ShareLines.mono_l k
    · intro y0 y1 y2 y3
      unfold impl_ShareLines.l0
      repeat' first
      | (with_reducible exact ih0 _ _ _ _)
      | (with_reducible exact impl_inOrder.mono _ _ _)
      | (with_reducible exact impl_total.mono _ _)
      | (with_reducible exact LeO.refl _)
      | (with_reducible exact LeO.none _)
      | (with_reducible refine LeO.ite ?_ ?_)
      | (with_reducible refine LeO.bind ?_ (fun _ => ?_))
      | exact ih0 _ _ _ _
      | exact impl_inOrder.mono _ _ _
      | exact impl_total.mono _ _
      | exact LeO.none _
      | refine LeO.ite ?_ ?_
      | refine LeO.bind ?_ (fun _ => ?_)
theorem impl_ShareLines.mono : ∀ a0 a1 k, LeO (impl_ShareLines.f k a0 a1) (impl_ShareLines.f (k + 1) a0 a1) := by
  intro a0 a1 k
  have ih0 := impl_ShareLines.mono_l k
  unfold impl_ShareLines.f
  repeat' first
      | (with_reducible exact ih0 _ _ _ _)
      | (with_reducible exact impl_inOrder.mono _ _ _)
      | (with_reducible exact impl_total.mono _ _)
      | (with_reducible exact LeO.refl _)
      | (with_reducible exact LeO.none _)
      | (with_reducible refine LeO.ite ?_ ?_)
      | (with_reducible refine LeO.bind ?_ (fun _ => ?_))
      | exact ih0 _ _ _ _
      | exact impl_inOrder.mono _ _ _
      | exact impl_total.mono _ _
      | exact LeO.none _
      | refine LeO.ite ?_ ?_
      | refine LeO.bind ?_ (fun _ => ?_)
set_option maxHeartbeats 8000000 in
set_option maxRecDepth 100000 in
theorem impl_ShareLines.calls (k : Nat) (A0 : Option Addr) (c0 : Nat) (l0 : List Int) (a1 : Int) (r1 : List Int) (r2 : Int) (r3 : Int) (w : World) (hr0 : Kd.C (Kd.int .i64) w A0 l0.length l0) (hc0 : l0.length ≤ c0) (h : impl_ShareLines.f k l0 a1 = some (r1, r2, r3)) :
    Calls Try.prog 7 #[.slice A0 l0.length c0, .int .i64 a1] w fun e w' => ∃ v0_ : Value, e = .returned (.tuple #[v0_, .int .i64 r2, .int .i64 r3]) ∧ Kd.R (Kd.int .i64) 2 w' w.heap.size (fun _ => True) v0_ r1 ∧ Below w.heap.size w w' := by
  have HR0 := Aside0.mk hr0
  have HC0 := Aside0.mk hc0
  clear hr0 hc0
  have HB := Aside0.mk (Below.refl w.heap.size w)
  have H : ((impl_timesCode.f l0 a1 6 12).bind fun t115 => (if t115 = 0 then (if (l0.length : Int) = 0 then (some (([] : List Int), 0, 0)) else ((slices_Max_int64_int64.f l0).bind fun t116 => ((impl_total.f k l0).bind fun t117 => (impl_ShareLines.l0 k l0 a1 t116 t117)))) else (some (([] : List Int), 0, t115)))) = some (r1, r2, r3) := h
  clear h
  replace H := Option.bind_eq_some_iff.mp H
  obtain ⟨t115, A30, H⟩ := H
  replace H : (if t115 = 0 then (if (l0.length : Int) = 0 then (some (([] : List Int), 0, 0)) else ((slices_Max_int64_int64.f l0).bind fun t116 => ((impl_total.f k l0).bind fun t117 => (impl_ShareLines.l0 k l0 a1 t116 t117)))) else (some (([] : List Int), 0, t115))) = some (r1, r2, r3) := H
  have A3 := Aside0.mk A30
  clear A30
  by_cases c4 : t115 = 0
  · rw [if_pos c4] at H
    have c4b0 : (t115 == 0) = true := beq_iff_eq.mpr c4
    have c4b1 : (t115 != 0) = false := bne_eq_false_iff_eq.mpr c4
    clear c4
    by_cases c5 : (l0.length : Int) = 0
    · rw [if_pos c5] at H
      have c5b0 : ((l0.length : Int) == 0) = true := beq_iff_eq.mpr c5
      have c5b1 : ((l0.length : Int) != 0) = false := bne_eq_false_iff_eq.mpr c5
      clear c5
      simp only [Option.some.injEq, Prod.mk.injEq] at H
      obtain ⟨rfl, rfl, rfl⟩ := H
      go_enter Try.func7, Try.ntmps7
      go_wp2_with (first | ((with_reducible refine gate_callee (f := 21) rfl ?_); refine goesL_ (some 14) rfl rfl Try.func21 (by kernel_rfl) rfl #[.slice A0 l0.length c0, .int .i64 a1, .int .i64 6, .int .i64 12] rfl (by (try simp only [List.map_toArray, List.map_cons, List.map_nil]); first | done | rfl | (simp only [List.length_drop, List.length_take]; rfl)) ?_; (with_reducible refine (impl_timesCode.calls _ _ l0 a1 6 12 t115 _ ?side1 ?side2 A3.out).mono ?_); (case side1 => repeat (first | exact HR0.out | (with_reducible refine Kd.C_alloc ?_ _) | (with_reducible refine Kd.C_drewN ?_ _) | (with_reducible refine Kd.C_drew ?_))); (case side2 => exact HC0.out); rintro e w6 ⟨rfl, hb⟩; refine ⟨_, rfl, ?_⟩; have n0_ := Aside0.mk (below_step (by repeat (first | (with_reducible first | exact HB.out | apply below_alloc | apply pw_below_drewN | apply below_drew1) | exact HB.out)) hb); clear HB; have HB := n0_; clear n0_; (try clear hb); (try clear hb2); (try clear hk); (try clear hi)))
      go_ret3
      exact ⟨_, by first | rfl | (simp [errW_none, errW_some] <;> rfl) | (simp [*, errW_none, errW_some] <;> rfl), by first | exact Kd.R_nil _ _ _ _ _ | exact Kd.N_nil _ _ _ _ _ | exact Kd.V_nil _ _ _ _ _ | exact Kd.Q_nil _ _ _ _ _ | exact Kd.S_nil _ _ _ _ _, by repeat (first | (with_reducible first | exact HB.out | apply below_alloc | apply pw_below_drewN | apply below_drew1) | exact HB.out)⟩
    · rw [if_neg c5] at H
      have c5b0 : ((l0.length : Int) == 0) = false := beq_eq_false_iff_ne.mpr c5
      have c5b1 : ((l0.length : Int) != 0) = true := bne_iff_ne.mpr c5
      have c5b2 : ¬ (l0 = []) := fun h_ => c5 (by rw [h_]; rfl)
      replace H := Option.bind_eq_some_iff.mp H
      obtain ⟨t116, A70, H⟩ := H
      replace H : ((impl_total.f k l0).bind fun t117 => (impl_ShareLines.l0 k l0 a1 t116 t117)) = some (r1, r2, r3) := H
      have A7 := Aside0.mk A70
      clear A70
      replace H := Option.bind_eq_some_iff.mp H
      obtain ⟨t117, A80, H⟩ := H
      replace H : (impl_ShareLines.l0 k l0 a1 t116 t117) = some (r1, r2, r3) := H
      have A8 := Aside0.mk A80
      clear A80
      have H' := Aside0.mk H
      clear H
      go_enter Try.func7, Try.ntmps7
      go_wp2_with (first | ((with_reducible refine gate_callee (f := 21) rfl ?_); refine goesL_ (some 14) rfl rfl Try.func21 (by kernel_rfl) rfl #[.slice A0 l0.length c0, .int .i64 a1, .int .i64 6, .int .i64 12] rfl (by (try simp only [List.map_toArray, List.map_cons, List.map_nil]); first | done | rfl | (simp only [List.length_drop, List.length_take]; rfl)) ?_; (with_reducible refine (impl_timesCode.calls _ _ l0 a1 6 12 t115 _ ?side1 ?side2 A3.out).mono ?_); (case side1 => repeat (first | exact HR0.out | (with_reducible refine Kd.C_alloc ?_ _) | (with_reducible refine Kd.C_drewN ?_ _) | (with_reducible refine Kd.C_drew ?_))); (case side2 => exact HC0.out); rintro e w9 ⟨rfl, hb⟩; refine ⟨_, rfl, ?_⟩; have n0_ := Aside0.mk (below_step (by repeat (first | (with_reducible first | exact HB.out | apply below_alloc | apply pw_below_drewN | apply below_drew1) | exact HB.out)) hb); clear HB; have HB := n0_; clear n0_; (try clear hb); (try clear hb2); (try clear hk); (try clear hi)) | ((with_reducible refine gate_callee (f := 22) rfl ?_); refine goesL_ (some 22) rfl rfl Try.func22 (by kernel_rfl) rfl #[.slice A0 l0.length c0] rfl (by (try simp only [List.map_toArray, List.map_cons, List.map_nil]); first | done | rfl | (simp only [List.length_drop, List.length_take]; rfl)) ?_; (with_reducible refine (slices_Max_int64_int64.calls _ _ l0 t116 _ ?side1 ?side2 A7.out).mono ?_); (case side1 => repeat (first | exact (Kd.C_below HR0.out HB.out) | (with_reducible refine Kd.C_alloc ?_ _) | (with_reducible refine Kd.C_drewN ?_ _) | (with_reducible refine Kd.C_drew ?_))); (case side2 => exact HC0.out); rintro e w10 ⟨rfl, hb⟩; refine ⟨_, rfl, ?_⟩; have n0_ := Aside0.mk (below_step (by repeat (first | (with_reducible first | exact HB.out | apply below_alloc | apply pw_below_drewN | apply below_drew1) | exact HB.out)) hb); clear HB; have HB := n0_; clear n0_; (try clear hb); (try clear hb2); (try clear hk); (try clear hi)) | ((with_reducible refine gate_callee (f := 23) rfl ?_); refine goesL_ (some 24) rfl rfl Try.func23 (by kernel_rfl) rfl #[.slice A0 l0.length c0] rfl (by (try simp only [List.map_toArray, List.map_cons, List.map_nil]); first | done | rfl | (simp only [List.length_drop, List.length_take]; rfl)) ?_; (with_reducible refine (impl_total.calls k _ _ l0 t117 _ ?side1 ?side2 A8.out).mono ?_); (case side1 => repeat (first | exact (Kd.C_below HR0.out HB.out) | (with_reducible refine Kd.C_alloc ?_ _) | (with_reducible refine Kd.C_drewN ?_ _) | (with_reducible refine Kd.C_drew ?_))); (case side2 => exact HC0.out); rintro e w' ⟨rfl, ⟨nd, rfl⟩⟩; refine ⟨_, rfl, ?_⟩))
      go_loopg [8, 9] k (fun kq v8 v9 w' => ∃ (x8_1 : Int) (x9_1 : Int), v8 = .int .i64 x8_1 ∧ v9 = .int .i64 x9_1 ∧ Aside0 (impl_ShareLines.l0 kq l0 a1 x8_1 x9_1 = some (r1, r2, r3)) ∧ Aside0 (kq ≤ k) ∧ Aside0 (Below w.heap.size w w'))
      case atStart => exact ⟨(t116), (t117), (by first | rfl | (simp; done) | (simp [*]; done)), (by first | rfl | (simp; done) | (simp [*]; done)), H', ⟨Nat.le_refl _⟩, ⟨by repeat (first | (with_reducible first | exact HB.out | apply below_alloc | apply pw_below_drewN | apply below_drew1) | exact HB.out)⟩⟩
      case round =>
        clear H'
        try clear c2
        try clear p2
        try clear c4
        try clear c4b0
        try clear c4b1
        try clear c5
        try clear c5b0
        try clear c5b1
        try clear c5b2
        try clear c7
        obtain ⟨x8_1, x9_1, rfl, rfl, HA, HK1, HB⟩ := hrel
        cases gk with
        | zero => exact absurd HA.out (by simp [impl_ShareLines.l0])
        | succ k1 =>
          have H := HA.out
          clear HA
          simp only [impl_ShareLines.l0] at H
          by_cases c11 : x8_1 < x9_1
          · rw [if_pos c11] at H
            have c11b0 : decide (x8_1 < x9_1) = true := decide_eq_true c11
            clear c11
            replace H := Option.bind_eq_some_iff.mp H
            obtain ⟨t118, A120, H⟩ := H
            replace H : (if 0 ≤ (wrap64 ((t118.length : Int) - 1)) then (if (wrap64 ((t118.length : Int) - 1)) < (t118.length : Int) then (if (rd t118 (wrap64 ((t118.length : Int) - 1))) < a1 then (impl_ShareLines.l0 k1 l0 a1 x8_1 (wrap64 (Int.tdiv (wrap64 (x8_1 + x9_1)) 2))) else (impl_ShareLines.l0 k1 l0 a1 (wrap64 ((wrap64 (Int.tdiv (wrap64 (x8_1 + x9_1)) 2)) + 1)) x9_1)) else (none)) else (none)) = some (r1, r2, r3) := H
            have A12 := Aside0.mk A120
            clear A120
            obtain ⟨ji13, hji13⟩ : ∃ j_ : Int, (wrap64 ((t118.length : Int) - 1)) = j_ := ⟨_, rfl⟩
            replace H : (if 0 ≤ (ji13) then (if (ji13) < (t118.length : Int) then (if (rd t118 (ji13)) < a1 then (impl_ShareLines.l0 k1 l0 a1 x8_1 (wrap64 (Int.tdiv (wrap64 (x8_1 + x9_1)) 2))) else (impl_ShareLines.l0 k1 l0 a1 (wrap64 ((wrap64 (Int.tdiv (wrap64 (x8_1 + x9_1)) 2)) + 1)) x9_1)) else (none)) else (none)) = some (r1, r2, r3) := by first | (rw [hji13] at H; exact H) | (simp only [hji13] at H ⊢; exact H)
            (try rw [hji13] at A12)
            have hji13w : (IntKind.i64.wrap ((t118.length : Int) - 1)) = ji13 := (i64_w _).trans hji13
            by_cases c14 : 0 ≤ (ji13)
            · rw [if_pos c14] at H
              have c14b0 : decide (0 ≤ (ji13)) = true := decide_eq_true c14
              clear c14
              by_cases c15 : (ji13) < (t118.length : Int)
              · rw [if_pos c15] at H
                have c15b0 : decide ((ji13) < (t118.length : Int)) = true := decide_eq_true c15
                clear c15
                by_cases c16 : (rd t118 (ji13)) < a1
                · rw [if_pos c16] at H
                  have c16b0 : decide ((rd t118 (ji13)) < a1) = true := decide_eq_true c16
                  clear c16
                  have H' := Aside0.mk H
                  clear H
                  go_wp2_with (first | ((with_reducible refine gate_callee (f := 24) rfl ?_); refine goesL_ (some 34) rfl rfl Try.func24 (by kernel_rfl) rfl #[.slice A0 l0.length c0, .int .i64 (wrap64 (Int.tdiv (wrap64 (x8_1 + x9_1)) 2))] rfl (by (try simp only [List.map_toArray, List.map_cons, List.map_nil]); first | done | rfl | (simp only [List.length_drop, List.length_take]; rfl)) ?_; (with_reducible refine (impl_inOrder.calls k1 _ _ l0 (wrap64 (Int.tdiv (wrap64 (x8_1 + x9_1)) 2)) t118 _ ?side1 ?side2 A12.out).mono ?_); (case side1 => repeat (first | exact (Kd.C_below HR0.out HB.out) | (with_reducible refine Kd.C_alloc ?_ _) | (with_reducible refine Kd.C_drewN ?_ _) | (with_reducible refine Kd.C_drew ?_))); (case side2 => exact HC0.out); rintro e w17 ⟨v119, rfl, ho0, hb⟩; refine ⟨_, rfl, ?_⟩; have n0_ := Aside0.mk (Kd.R_lower ho0 (below_size (by repeat (first | (with_reducible first | exact HB.out | apply below_alloc | apply pw_below_drewN | apply below_drew1) | exact HB.out)))); have n1_ := Aside0.mk (below_step (by repeat (first | (with_reducible first | exact HB.out | apply below_alloc | apply pw_below_drewN | apply below_drew1) | exact HB.out)) hb); clear HB; have HO120 := n0_; have HB := n1_; clear n0_ n1_; (try clear hb); (try clear hb2); (try clear hk); (try clear hi); (try clear ho0); obtain ⟨Ao18, co18, eo18⟩ := Kd.R_slice HO120.out; subst eo18; have p121 : 0 ≤ ((ji13) : Int) := of_decide_eq_true (by first | (with_reducible assumption) | assumption); have q121 : (ji13) < (t118.length : Int) := of_decide_eq_true (by first | (with_reducible assumption) | assumption); obtain ⟨ad121, e121, hx121_0⟩ := Kd.at_int (Kd.R_reads' HO120.out).2.2 (ji13) p121 q121; cases e121; replace p121 := eq_true p121; replace q121 := eq_true q121))
                  go_roundg k1
                  case measure => have := HK1.out; omega
                  case rel => exact ⟨(x8_1), (wrap64 (Int.tdiv (wrap64 (x8_1 + x9_1)) 2)), (by first | rfl | (simp; done) | (simp [*]; done)), (by first | rfl | (simp; done) | (simp [*]; done)), H', ⟨by have := HK1.out; omega⟩, ⟨by repeat (first | (with_reducible first | exact HB.out | apply below_alloc | apply pw_below_drewN | apply below_drew1) | exact HB.out)⟩⟩
                · rw [if_neg c16] at H
                  have c16b0 : decide ((rd t118 (ji13)) < a1) = false := decide_eq_false c16
                  clear c16
                  have H' := Aside0.mk H
                  clear H
                  go_wp2_with (first | ((with_reducible refine gate_callee (f := 24) rfl ?_); refine goesL_ (some 34) rfl rfl Try.func24 (by kernel_rfl) rfl #[.slice A0 l0.length c0, .int .i64 (wrap64 (Int.tdiv (wrap64 (x8_1 + x9_1)) 2))] rfl (by (try simp only [List.map_toArray, List.map_cons, List.map_nil]); first | done | rfl | (simp only [List.length_drop, List.length_take]; rfl)) ?_; (with_reducible refine (impl_inOrder.calls k1 _ _ l0 (wrap64 (Int.tdiv (wrap64 (x8_1 + x9_1)) 2)) t118 _ ?side1 ?side2 A12.out).mono ?_); (case side1 => repeat (first | exact (Kd.C_below HR0.out HB.out) | (with_reducible refine Kd.C_alloc ?_ _) | (with_reducible refine Kd.C_drewN ?_ _) | (with_reducible refine Kd.C_drew ?_))); (case side2 => exact HC0.out); rintro e w19 ⟨v119, rfl, ho0, hb⟩; refine ⟨_, rfl, ?_⟩; have n0_ := Aside0.mk (Kd.R_lower ho0 (below_size (by repeat (first | (with_reducible first | exact HB.out | apply below_alloc | apply pw_below_drewN | apply below_drew1) | exact HB.out)))); have n1_ := Aside0.mk (below_step (by repeat (first | (with_reducible first | exact HB.out | apply below_alloc | apply pw_below_drewN | apply below_drew1) | exact HB.out)) hb); clear HB; have HO120 := n0_; have HB := n1_; clear n0_ n1_; (try clear hb); (try clear hb2); (try clear hk); (try clear hi); (try clear ho0); obtain ⟨Ao20, co20, eo20⟩ := Kd.R_slice HO120.out; subst eo20; have p121 : 0 ≤ ((ji13) : Int) := of_decide_eq_true (by first | (with_reducible assumption) | assumption); have q121 : (ji13) < (t118.length : Int) := of_decide_eq_true (by first | (with_reducible assumption) | assumption); obtain ⟨ad121, e121, hx121_0⟩ := Kd.at_int (Kd.R_reads' HO120.out).2.2 (ji13) p121 q121; cases e121; replace p121 := eq_true p121; replace q121 := eq_true q121))
                  go_roundg k1
                  case measure => have := HK1.out; omega
                  case rel => exact ⟨(wrap64 ((wrap64 (Int.tdiv (wrap64 (x8_1 + x9_1)) 2)) + 1)), (x9_1), (by first | rfl | (simp; done) | (simp [*]; done)), (by first | rfl | (simp; done) | (simp [*]; done)), H', ⟨by have := HK1.out; omega⟩, ⟨by repeat (first | (with_reducible first | exact HB.out | apply below_alloc | apply pw_below_drewN | apply below_drew1) | exact HB.out)⟩⟩
              · rw [if_neg c15] at H
                exact absurd H (by simp)
            · rw [if_neg c14] at H
              exact absurd H (by simp)
          · rw [if_neg c11] at H
            have c11b0 : decide (x8_1 < x9_1) = false := decide_eq_false c11
            clear c11
            replace H := Option.bind_eq_some_iff.mp H
            obtain ⟨t122, A210, H⟩ := H
            replace H : (some (t122, x8_1, 0)) = some (r1, r2, r3) := H
            have A21 := Aside0.mk A210
            clear A210
            simp only [Option.some.injEq, Prod.mk.injEq] at H
            obtain ⟨rfl, rfl, rfl⟩ := H
            go_wp2_with (first | ((with_reducible refine gate_callee (f := 24) rfl ?_); refine goesL_ (some 48) rfl rfl Try.func24 (by kernel_rfl) rfl #[.slice A0 l0.length c0, .int .i64 x8_1] rfl (by (try simp only [List.map_toArray, List.map_cons, List.map_nil]); first | done | rfl | (simp only [List.length_drop, List.length_take]; rfl)) ?_; (with_reducible refine (impl_inOrder.calls k1 _ _ l0 x8_1 t122 _ ?side1 ?side2 A21.out).mono ?_); (case side1 => repeat (first | exact (Kd.C_below HR0.out HB.out) | (with_reducible refine Kd.C_alloc ?_ _) | (with_reducible refine Kd.C_drewN ?_ _) | (with_reducible refine Kd.C_drew ?_))); (case side2 => exact HC0.out); rintro e w22 ⟨v123, rfl, ho0, hb⟩; refine ⟨_, rfl, ?_⟩; have n0_ := Aside0.mk (Kd.R_lower ho0 (below_size (by repeat (first | (with_reducible first | exact HB.out | apply below_alloc | apply pw_below_drewN | apply below_drew1) | exact HB.out)))); have n1_ := Aside0.mk (below_step (by repeat (first | (with_reducible first | exact HB.out | apply below_alloc | apply pw_below_drewN | apply below_drew1) | exact HB.out)) hb); clear HB; have HO124 := n0_; have HB := n1_; clear n0_ n1_; (try clear hb); (try clear hb2); (try clear hk); (try clear hi); (try clear ho0)))
            go_ret3
            exact ⟨_, by first | rfl | (simp [errW_none, errW_some] <;> rfl) | (simp [*, errW_none, errW_some] <;> rfl), by (with_reducible repeat (first | apply Kd.R_alloc | apply Kd.R_drewN | apply Kd.R_drew)); exact HO124.out, by repeat (first | (with_reducible first | exact HB.out | apply below_alloc | apply pw_below_drewN | apply below_drew1) | exact HB.out)⟩
  · rw [if_neg c4] at H
    have c4b0 : (t115 == 0) = false := beq_eq_false_iff_ne.mpr c4
    have c4b1 : (t115 != 0) = true := bne_iff_ne.mpr c4
    simp only [Option.some.injEq, Prod.mk.injEq] at H
    obtain ⟨rfl, rfl, rfl⟩ := H
    go_enter Try.func7, Try.ntmps7
    go_wp2_with (first | ((with_reducible refine gate_callee (f := 21) rfl ?_); refine goesL_ (some 14) rfl rfl Try.func21 (by kernel_rfl) rfl #[.slice A0 l0.length c0, .int .i64 a1, .int .i64 6, .int .i64 12] rfl (by (try simp only [List.map_toArray, List.map_cons, List.map_nil]); first | done | rfl | (simp only [List.length_drop, List.length_take]; rfl)) ?_; (with_reducible refine (impl_timesCode.calls _ _ l0 a1 6 12 t115 _ ?side1 ?side2 A3.out).mono ?_); (case side1 => repeat (first | exact HR0.out | (with_reducible refine Kd.C_alloc ?_ _) | (with_reducible refine Kd.C_drewN ?_ _) | (with_reducible refine Kd.C_drew ?_))); (case side2 => exact HC0.out); rintro e w23 ⟨rfl, hb⟩; refine ⟨_, rfl, ?_⟩; have n0_ := Aside0.mk (below_step (by repeat (first | (with_reducible first | exact HB.out | apply below_alloc | apply pw_below_drewN | apply below_drew1) | exact HB.out)) hb); clear HB; have HB := n0_; clear n0_; (try clear hb); (try clear hb2); (try clear hk); (try clear hi)))
    go_ret3
    exact ⟨_, by first | rfl | (simp [errW_none, errW_some] <;> rfl) | (simp [*, errW_none, errW_some] <;> rfl), by first | exact Kd.R_nil _ _ _ _ _ | exact Kd.N_nil _ _ _ _ _ | exact Kd.V_nil _ _ _ _ _ | exact Kd.Q_nil _ _ _ _ _ | exact Kd.S_nil _ _ _ _ _, by repeat (first | (with_reducible first | exact HB.out | apply below_alloc | apply pw_below_drewN | apply below_drew1) | exact HB.out)⟩
def spec_l00In.f (a0 a1 a2 : Int) : Option (Bool) := if a0 ≥ a1 then (some (decide (a0 ≤ a2))) else (some false)
set_option maxHeartbeats 8000000 in
set_option maxRecDepth 100000 in
theorem spec_l00In.calls (a0 a1 a2 : Int) (r : Bool) (w : World) (h : spec_l00In.f a0 a1 a2 = some r) :
    Calls Try.prog 50 #[.int .i64 a0, .int .i64 a1, .int .i64 a2] w fun e w' => e = .returned (.bool r) ∧ Drawn0 w w' := by
  have H : (if a0 ≥ a1 then (some (decide (a0 ≤ a2))) else (some false)) = some r := h
  clear h
  by_cases c4 : a0 ≥ a1
  · rw [if_pos c4] at H
    have c4b0 : decide (a1 ≤ a0) = true := decide_eq_true c4
    clear c4
    obtain rfl := Option.some.inj H
    go_enter Try.func50, Try.ntmps50
    go_wp2
    go_ret
    exact ⟨by first | rfl | (simp; done) | (simp [*]; done), by repeat (first | exact Drawn0.refl _ | apply Drawn0.step)⟩
  · rw [if_neg c4] at H
    have c4b0 : decide (a1 ≤ a0) = false := decide_eq_false c4
    clear c4
    obtain rfl := Option.some.inj H
    go_enter Try.func50, Try.ntmps50
    go_wp2
    go_ret
    exact ⟨by first | rfl | (simp; done) | (simp [*]; done), by repeat (first | exact Drawn0.refl _ | apply Drawn0.step)⟩
end Go.Proofs.Ytcibhhkpnakkgaa.Q
namespace Go.Proofs.Ytcibhhkpnakkgaa.Pure
open Go.RowKit Go.Proofs.Ytcibhhkpnakkgaa.Ext Go.Proofs.Ytcibhhkpnakkgaa.Q Go.Proofs.YtcibhhkpnakkgaaW.PrintWords Go.Proofs.YtcibhhkpnakkgaaW.PrintLast Go.Proofs.YtcibhhkpnakkgaaW.PrintMore
set_option linter.unusedVariables false
set_option linter.unusedSimpArgs false
theorem in_eq (a b c : Int) : spec_l00In.f a b c = some (inB a b c) := by
  unfold spec_l00In.f inB
  by_cases h : b ≤ a
  · rw [if_pos h]; simp [h]
  · rw [if_neg h]; simp [h]
theorem within_eq (a b c : Int) : impl_within.f a b c = some (inB a b c) := by
  unfold impl_within.f inB
  by_cases h : b ≤ a
  · rw [if_pos h]; simp [h]
  · rw [if_neg h]; simp [h]
theorem rd_all {p : Int → Bool} {l : List Int} (h : l.all p = true) (n : Nat) (hn : n < l.length) : p (rd l n) = true := List.all_eq_true.1 h _ (rd_mem l n hn)
end Go.Proofs.Ytcibhhkpnakkgaa.Pure
namespace Go.Proofs.Ytcibhhkpnakkgaa.Ext
end Go.Proofs.Ytcibhhkpnakkgaa.Ext
namespace Go.Proofs.Ytcibhhkpnakkgaa.Q
open Go.Proofs.Ytcibhhkpnakkgaa.Ext
open Go.RowKit Go.Proofs.YtcibhhkpnakkgaaW.PrintWords Go.Proofs.YtcibhhkpnakkgaaW.PrintLast Go.Proofs.YtcibhhkpnakkgaaW.PrintMore
attribute [local go_sem] max2_int min2_int max_two min_two max_three min_three max_four min_four
set_option linter.unusedVariables false
set_option linter.unusedSimpArgs false
def spec_l05Minutes.f (a0 : Int) : Option (Bool) := (spec_l00In.f a0 1 100000).bind fun t125 => (some t125)
set_option maxHeartbeats 8000000 in
set_option maxRecDepth 100000 in
theorem spec_l05Minutes.calls (a0 : Int) (r : Bool) (w : World) (h : spec_l05Minutes.f a0 = some r) :
    Calls Try.prog 33 #[.int .i64 a0] w fun e w' => e = .returned (.bool r) ∧ Drawn0 w w' := by
  have H : ((spec_l00In.f a0 1 100000).bind fun t125 => (some t125)) = some r := h
  clear h
  replace H := Option.bind_eq_some_iff.mp H
  obtain ⟨t125, A20, H⟩ := H
  replace H : (some t125) = some r := H
  have A2 := Aside0.mk A20
  clear A20
  obtain rfl := Option.some.inj H
  go_enter Try.func33, Try.ntmps33
  go_wp2_with (first | ((with_reducible refine gate_callee (f := 50) rfl ?_); refine goesL_ (some 4) rfl rfl Try.func50 (by kernel_rfl) rfl #[.int .i64 a0, .int .i64 1, .int .i64 100000] rfl (by (try simp only [List.map_toArray, List.map_cons, List.map_nil]); first | done | rfl | (simp only [List.length_drop, List.length_take]; rfl)) ?_; (with_reducible refine (spec_l00In.calls a0 1 100000 t125 _ A2.out).mono ?_); rintro e w' ⟨rfl, ⟨nd, rfl⟩⟩; refine ⟨_, rfl, ?_⟩))
  go_ret
  exact ⟨by first | rfl | (simp; done) | (simp [*]; done), by repeat (first | exact Drawn0.refl _ | apply Drawn0.step)⟩
def spec_l05Times.l0 : Nat → List Int → Bool → Int → Int → Option (Int)
  | 0, _, _, _, _ => none
  | k + 1, x0, x1, x2, x7 => if x7 < (x0.length : Int) then (if x1 = true then (if 0 ≤ x7 then ((spec_l05Minutes.f (rd x0 x7)).bind fun t127 => (spec_l05Times.l0 k x0 t127 x2 (wrap64 (x7 + 1)))) else (none)) else (spec_l05Times.l0 k x0 false x2 (wrap64 (x7 + 1)))) else (if x1 = true then (if (x0.length : Int) > 12 then (some 3) else (if (x0.length : Int) > x2 then (some 3) else (some 0))) else (some 2))
def spec_l05Times.f (k : Nat) (l0 : List Int) (a1 : Bool) (a2 : Int) : Option (Int) := spec_l05Times.l0 k l0 a1 a2 0
theorem spec_l05Times.mono_l : ∀ k, (∀ y0 y1 y2 y3, LeO (spec_l05Times.l0 k y0 y1 y2 y3) (spec_l05Times.l0 (k + 1) y0 y1 y2 y3))
  | 0 => fun _ _ _ _ r h => by simp [spec_l05Times.l0] at h
  | k + 1 => by
    have ih0 := spec_l05Times.mono_l k
    · intro y0 y1 y2 y3
      unfold spec_l05Times.l0
      repeat' first
      | (with_reducible exact ih0 _ _ _ _)
      | (with_reducible exact LeO.refl _)
      | (with_reducible exact LeO.none _)
      | (with_reducible refine LeO.ite ?_ ?_)
      | (with_reducible refine LeO.bind ?_ (fun _ => ?_))
      | exact ih0 _ _ _ _
      | exact LeO.none _
      | refine LeO.ite ?_ ?_
      | refine LeO.bind ?_ (fun _ => ?_)
theorem spec_l05Times.mono : ∀ a0 a1 a2 k, LeO (spec_l05Times.f k a0 a1 a2) (spec_l05Times.f (k + 1) a0 a1 a2) := by
  intro a0 a1 a2 k
  have ih0 := spec_l05Times.mono_l k
  unfold spec_l05Times.f
  repeat' first
      | (with_reducible exact ih0 _ _ _ _)
      | (with_reducible exact LeO.refl _)
      | (with_reducible exact LeO.none _)
      | (with_reducible refine LeO.ite ?_ ?_)
      | (with_reducible refine LeO.bind ?_ (fun _ => ?_))
      | exact ih0 _ _ _ _
      | exact LeO.none _
      | refine LeO.ite ?_ ?_
      | refine LeO.bind ?_ (fun _ => ?_)
set_option maxHeartbeats 8000000 in
set_option maxRecDepth 100000 in
theorem spec_l05Times.calls (k : Nat) (A0 : Option Addr) (c0 : Nat) (l0 : List Int) (a1 : Bool) (a2 : Int) (r : Int) (w : World) (hr0 : Kd.C (Kd.int .i64) w A0 l0.length l0) (hc0 : l0.length ≤ c0) (h : spec_l05Times.f k l0 a1 a2 = some r) :
    Calls Try.prog 25 #[.slice A0 l0.length c0, .bool a1, .int .i64 a2] w fun e w' => e = .returned (.int .i64 r) ∧ Drawn0 w w' := by
  have HR0 := Aside0.mk hr0
  have HC0 := Aside0.mk hc0
  clear hr0 hc0
  have H : (spec_l05Times.l0 k l0 a1 a2 0) = some r := h
  clear h
  have H' := Aside0.mk H
  clear H
  go_enter Try.func25, Try.ntmps25
  go_wp2
  go_loopg [1, 7] k (fun kq v1 v7 w' => ∃ (x1_1 : Bool) (x7_1 : Int), v1 = .bool x1_1 ∧ v7 = .int .i64 x7_1 ∧ Aside0 (spec_l05Times.l0 kq l0 x1_1 a2 x7_1 = some r) ∧ Aside0 (kq ≤ k) ∧ Drawn0 w w')
  case atStart => exact ⟨(a1), (0), (by first | rfl | (simp; done) | (simp [*]; done)), (by first | rfl | (simp; done) | (simp [*]; done)), H', ⟨Nat.le_refl _⟩, by repeat (first | exact Drawn0.refl _ | apply Drawn0.step)⟩
  case round =>
    clear H'
    try clear c2
    try clear p2
    obtain ⟨x1_1, x7_1, rfl, rfl, HA, HK1, ⟨m1, rfl⟩⟩ := hrel
    cases gk with
    | zero => exact absurd HA.out (by simp [spec_l05Times.l0])
    | succ k1 =>
      have H := HA.out
      clear HA
      simp only [spec_l05Times.l0] at H
      by_cases c4 : x7_1 < (l0.length : Int)
      · rw [if_pos c4] at H
        have c4b0 : decide (x7_1 < (l0.length : Int)) = true := decide_eq_true c4
        clear c4
        by_cases c5 : x1_1 = true
        · subst c5
          have H1 : (if 0 ≤ x7_1 then ((spec_l05Minutes.f (rd l0 x7_1)).bind fun t127 => (spec_l05Times.l0 k1 l0 t127 a2 (wrap64 (x7_1 + 1)))) else (none)) = some r := by rw [if_pos rfl] at H; exact H
          clear H
          have H := H1
          clear H1
          by_cases c6 : 0 ≤ x7_1
          · rw [if_pos c6] at H
            have c6b0 : decide (0 ≤ x7_1) = true := decide_eq_true c6
            clear c6
            replace H := Option.bind_eq_some_iff.mp H
            obtain ⟨t127, A70, H⟩ := H
            replace H : (spec_l05Times.l0 k1 l0 t127 a2 (wrap64 (x7_1 + 1))) = some r := H
            have A7 := Aside0.mk A70
            clear A70
            have H' := Aside0.mk H
            clear H
            have p126 : 0 ≤ (x7_1 : Int) := of_decide_eq_true (by first | (with_reducible assumption) | assumption)
            have q126 : x7_1 < (l0.length : Int) := of_decide_eq_true (by first | (with_reducible assumption) | assumption)
            obtain ⟨ad126, e126, hx126_0⟩ := Kd.at_int HR0.out x7_1 p126 q126
            cases e126
            replace p126 := eq_true p126
            replace q126 := eq_true q126
            go_wp2_with (first | (go_at_call 33; (with_reducible refine (spec_l05Minutes.calls (rd l0 x7_1) t127 _ A7.out).mono ?_); rintro e w' ⟨rfl, ⟨nd, rfl⟩⟩))
            go_roundg k1
            case measure => have := HK1.out; omega
            case rel => exact ⟨(t127), (wrap64 (x7_1 + 1)), (by first | rfl | (simp; done) | (simp [*]; done)), (by first | rfl | (simp; done) | (simp [*]; done)), H', ⟨by have := HK1.out; omega⟩, by repeat (first | exact Drawn0.refl _ | apply Drawn0.step)⟩
          · rw [if_neg c6] at H
            exact absurd H (by simp)
        · replace c5 := Bool.eq_false_iff.mpr c5
          subst c5
          have H1 : (spec_l05Times.l0 k1 l0 false a2 (wrap64 (x7_1 + 1))) = some r := by rw [if_neg (show ¬ (false = true) by decide)] at H; exact H
          clear H
          have H := H1
          clear H1
          have H' := Aside0.mk H
          clear H
          go_wp2
          go_roundg k1
          case measure => have := HK1.out; omega
          case rel => exact ⟨(false), (wrap64 (x7_1 + 1)), (by first | rfl | (simp; done) | (simp [*]; done)), (by first | rfl | (simp; done) | (simp [*]; done)), H', ⟨by have := HK1.out; omega⟩, by repeat (first | exact Drawn0.refl _ | apply Drawn0.step)⟩
      · rw [if_neg c4] at H
        have c4b0 : decide (x7_1 < (l0.length : Int)) = false := decide_eq_false c4
        clear c4
        by_cases c8 : x1_1 = true
        · subst c8
          have H1 : (if (l0.length : Int) > 12 then (some 3) else (if (l0.length : Int) > a2 then (some 3) else (some 0))) = some r := by rw [if_pos rfl] at H; exact H
          clear H
          have H := H1
          clear H1
          by_cases c9 : (l0.length : Int) > 12
          · rw [if_pos c9] at H
            have c9b0 : decide (12 < (l0.length : Int)) = true := decide_eq_true c9
            have c9b1 : decide (12 < l0.length) = true := decide_eq_true (by omega)
            clear c9
            obtain rfl := Option.some.inj H
            go_wp2
            go_ret
            exact ⟨by first | rfl | (simp; done) | (simp [*]; done), by repeat (first | exact Drawn0.refl _ | apply Drawn0.step)⟩
          · rw [if_neg c9] at H
            have c9b0 : decide (12 < (l0.length : Int)) = false := decide_eq_false c9
            have c9b1 : decide (12 < l0.length) = false := decide_eq_false (by omega)
            clear c9
            by_cases c10 : (l0.length : Int) > a2
            · rw [if_pos c10] at H
              have c10b0 : decide (a2 < (l0.length : Int)) = true := decide_eq_true c10
              clear c10
              obtain rfl := Option.some.inj H
              go_wp2
              go_ret
              exact ⟨by first | rfl | (simp; done) | (simp [*]; done), by repeat (first | exact Drawn0.refl _ | apply Drawn0.step)⟩
            · rw [if_neg c10] at H
              have c10b0 : decide (a2 < (l0.length : Int)) = false := decide_eq_false c10
              clear c10
              obtain rfl := Option.some.inj H
              go_wp2
              go_ret
              exact ⟨by first | rfl | (simp; done) | (simp [*]; done), by repeat (first | exact Drawn0.refl _ | apply Drawn0.step)⟩
        · replace c8 := Bool.eq_false_iff.mpr c8
          subst c8
          have H1 : (some 2) = some r := by rw [if_neg (show ¬ (false = true) by decide)] at H; exact H
          clear H
          have H := H1
          clear H1
          obtain rfl := Option.some.inj H
          go_wp2
          go_ret
          exact ⟨by first | rfl | (simp; done) | (simp [*]; done), by repeat (first | exact Drawn0.refl _ | apply Drawn0.step)⟩
def spec_l05Cutters.f (a0 : Int) : Option (Bool) := (spec_l00In.f a0 1 6).bind fun t128 => (some t128)
set_option maxHeartbeats 8000000 in
set_option maxRecDepth 100000 in
theorem spec_l05Cutters.calls (a0 : Int) (r : Bool) (w : World) (h : spec_l05Cutters.f a0 = some r) :
    Calls Try.prog 26 #[.int .i64 a0] w fun e w' => e = .returned (.bool r) ∧ Drawn0 w w' := by
  have H : ((spec_l00In.f a0 1 6).bind fun t128 => (some t128)) = some r := h
  clear h
  replace H := Option.bind_eq_some_iff.mp H
  obtain ⟨t128, A20, H⟩ := H
  replace H : (some t128) = some r := H
  have A2 := Aside0.mk A20
  clear A20
  obtain rfl := Option.some.inj H
  go_enter Try.func26, Try.ntmps26
  go_wp2_with (first | ((with_reducible refine gate_callee (f := 50) rfl ?_); refine goesL_ (some 4) rfl rfl Try.func50 (by kernel_rfl) rfl #[.int .i64 a0, .int .i64 1, .int .i64 6] rfl (by (try simp only [List.map_toArray, List.map_cons, List.map_nil]); first | done | rfl | (simp only [List.length_drop, List.length_take]; rfl)) ?_; (with_reducible refine (spec_l00In.calls a0 1 6 t128 _ A2.out).mono ?_); rintro e w' ⟨rfl, ⟨nd, rfl⟩⟩; refine ⟨_, rfl, ?_⟩))
  go_ret
  exact ⟨by first | rfl | (simp; done) | (simp [*]; done), by repeat (first | exact Drawn0.refl _ | apply Drawn0.step)⟩
def spec_l00Own.f (l0 : List Int) : Option (List Int) := (some (([] : List Int) : List Int)).bind fun y129 => (if y129.length + l0.length < 17592186044416 then (some (y129 ++ l0)) else (none))
set_option maxHeartbeats 8000000 in
set_option maxRecDepth 100000 in
theorem spec_l00Own.calls (A0 : Option Addr) (c0 : Nat) (l0 : List Int) (r : List Int) (w : World) (hr0 : Kd.C (Kd.int .i64) w A0 l0.length l0) (hc0 : l0.length ≤ c0) (h : spec_l00Own.f l0 = some r) :
    Calls Try.prog 55 #[.slice A0 l0.length c0] w fun e w' => ∃ v0_ : Value, e = .returned (v0_) ∧ Kd.R (Kd.int .i64) 2 w' w.heap.size (fun _ => True) v0_ r ∧ Below w.heap.size w w' := by
  have HR0 := Aside0.mk hr0
  have HC0 := Aside0.mk hc0
  clear hr0 hc0
  have HB := Aside0.mk (Below.refl w.heap.size w)
  have H : ((some (([] : List Int) : List Int)).bind fun y129 => (if y129.length + l0.length < 17592186044416 then (some (y129 ++ l0)) else (none))) = some r := h
  clear h
  obtain ⟨y129, hy129⟩ : ∃ y_ : List Int, y_ = (([] : List Int)) := ⟨_, rfl⟩
  replace H : (if y129.length + l0.length < 17592186044416 then (some (y129 ++ l0)) else (none)) = some r := by first | (rw [hy129]; with_reducible exact H) | (have H2_ := (Option.bind_some _ _).symm.trans H; rw [hy129]; with_reducible exact H2_) | (have H2_ := (Option.bind_some _ _).symm.trans H; with_reducible exact H2_) | with_reducible exact H | (rw [hy129]; exact H) | exact H
  have Ny129 := Aside0.mk hy129
  clear hy129
  by_cases c2 : y129.length + l0.length < 17592186044416
  · rw [if_pos c2] at H
    have LMc2 := Aside0.mk c2
    clear c2
    obtain ⟨y132, hy132⟩ : ∃ y_ : List Int, y_ = (y129 ++ l0) := ⟨_, rfl⟩
    replace H : (some y132) = some r := by first | (rw [hy132]; with_reducible exact H) | (have H2_ := (Option.bind_some _ _).symm.trans H; rw [hy132]; with_reducible exact H2_) | (have H2_ := (Option.bind_some _ _).symm.trans H; with_reducible exact H2_) | with_reducible exact H | (rw [hy132]; exact H) | exact H
    have Ny132 := Aside0.mk hy132
    clear hy132
    obtain rfl := Option.some.inj H
    go_enter Try.func55, Try.ntmps55
    go_wp2_with (first | ((with_reducible refine gate_dst (N := 3) rfl ?_); refine Kd.R_lit (Kd.int .i64) _ 2 ?hg (N := 3) ?hd (xs := ([] : List Int)) (inner := []) (ok := fun _ => True) (okp := fun _ => True) ?hr ?hp (fun _ hk => hk) trivial (Below.refl _ _) (Nat.le_refl _) (by simp) ?_; (case hd => rfl); (case hg => rfl); (case hr => first | (go_simp; done) | (go_simp; rfl)); (case hp => exact (Reps.none _ _)); intro v130 w3 ho4 hb hg_ hnew_; clear hg_ hnew_; (first | rw [← Ny129.out] at ho4 | (simp only [Int.reduceToNat] at ho4; rw [← Ny129.out] at ho4)); have n0_ := Aside0.mk (Kd.R_lower ho4 (below_size (by repeat (first | (with_reducible first | exact HB.out | apply below_alloc | apply pw_below_drewN | apply below_drew1) | exact HB.out)))); have n1_ := Aside0.mk (below_step (by repeat (first | (with_reducible first | exact HB.out | apply below_alloc | apply pw_below_drewN | apply below_drew1) | exact HB.out)) hb); clear HB; have HO131 := n0_; have HB := n1_; clear n0_ n1_; clear hb ho4) | ((with_reducible refine gate_builtin (b := .append) (xs := #[.tmp 3, .tmp 4]) rfl ?_); at_builtin; refine Kd.R_append_rows (Kd.int .i64) (w0 := w) w.heap.size rfl (.tmp 3) (.tmp 4) 24 2 (.int .i64 0) 8 rfl Try.underlying24 info2 rfl (by decide) (by omega) v130 y129 l0 _ _ _ (fun _ => True) (fun _ => False) rfl rfl ?aO ?aR (fun _ _ h => h) (fun _ h => h.elim) ?aF ?aB ?aS ?aL ?_; (case aR => repeat (first | exact (Kd.C_below HR0.out HB.out) | (with_reducible refine Kd.C_alloc ?_ _) | (with_reducible refine Kd.C_drewN ?_ _) | (with_reducible refine Kd.C_drew ?_))); (case aB => exact (by repeat (first | (with_reducible first | exact HB.out | apply below_alloc | apply pw_below_drewN | apply below_drew1) | exact HB.out))); (case aF => exact (fun _ _ => trivial)); (case aO => exact (by (with_reducible repeat (first | apply Kd.R_alloc | apply Kd.R_drewN | apply Kd.R_drew)); exact HO131.out)); (case aS => exact (below_size (by repeat (first | (with_reducible first | exact HB.out | apply below_alloc | apply pw_below_drewN | apply below_drew1) | exact HB.out)))); (case aL => have := LMc2.out; omega); intro v133 w5 ho hb hg hat; rw [← Ny132.out] at ho; have n0_ := Aside0.mk (hb); have n1_ := Aside0.mk (ho); clear HB; clear HO131; have HB := n0_; have HO134 := n1_; clear n0_ n1_; clear ho hb hg hat))
    go_ret
    exact ⟨_, by first | rfl | (simp [errW_none, errW_some] <;> rfl) | (simp [*, errW_none, errW_some] <;> rfl), by (with_reducible repeat (first | apply Kd.R_alloc | apply Kd.R_drewN | apply Kd.R_drew)); exact HO134.out, by repeat (first | (with_reducible first | exact HB.out | apply below_alloc | apply pw_below_drewN | apply below_drew1) | exact HB.out)⟩
  · rw [if_neg c2] at H
    exact absurd H (by simp)
end Go.Proofs.Ytcibhhkpnakkgaa.Q
namespace Go.Proofs.Ytcibhhkpnakkgaa.Pure
open Go.RowKit Go.Proofs.Ytcibhhkpnakkgaa.Ext Go.Proofs.Ytcibhhkpnakkgaa.Q Go.Proofs.YtcibhhkpnakkgaaW.PrintWords Go.Proofs.YtcibhhkpnakkgaaW.PrintLast Go.Proofs.YtcibhhkpnakkgaaW.PrintMore
set_option linter.unusedVariables false
set_option linter.unusedSimpArgs false
def timesB (l : List Int) : Bool := l.all fun n => inB n 1 100000
def timesC (b : Bool) (l : List Int) (most : Int) : Int := if b && timesB l then if (l.length : Int) ≤ most then 0 else 3 else 2
theorem any_out (l : List Int) (a b : Int) : l.any (outB a b) = !l.all (fun n => inB n a b) := by
  rw [Bool.eq_iff_iff]
  simp [outB]
theorem impl_times_eq (l : List Int) (n most lines : Int) : impl_timesCode.f l n most lines = some (timesC (inB n 1 most) l lines) := by
  unfold impl_timesCode.f timesC slices_ContainsFunc_int64_int64_at_impl_timesCode_1.f impl_unless.f timesB
  rw [within_eq, any_out]
  simp only [Option.bind_some]
  cases inB n 1 most <;> cases l.all (fun n => inB n 1 100000) <;> simp
  by_cases h : (l.length : Int) ≤ lines
  · simp [h]
  · simp [h]
theorem minutes_eq (n : Int) : spec_l05Minutes.f n = some (inB n 1 100000) := by
  unfold spec_l05Minutes.f
  rw [in_eq]; rfl
theorem times_l0 (l : List Int) (m : Int) (hm : m ≤ 12) (hl : l.length ≤ 1048576) : ∀ (d k n : Nat) (b : Bool), n + d = l.length → d < k →
    spec_l05Times.l0 k l b m n = some (if b && (l.drop n).all (fun n => inB n 1 100000) then if (l.length : Int) ≤ m then 0 else 3 else 2)
  | 0, k, n, b, hd, hk => by
    obtain ⟨k, rfl⟩ := some_k hk
    simp only [spec_l05Times.l0]
    rw [if_neg (by omega), List.drop_eq_nil_of_le (by omega)]
    cases b
    · simp
    · simp only [if_true, List.all_nil, Bool.and_true]
      by_cases h : (l.length : Int) ≤ m
      · rw [if_neg (by omega), if_neg (by omega), if_pos h]
      · rw [if_neg h]
        by_cases h2 : (l.length : Int) > 12
        · rw [if_pos h2]
        · rw [if_neg h2, if_pos (by omega)]
  | d + 1, k, n, b, hd, hk => by
    obtain ⟨k, rfl⟩ := some_k hk
    simp only [spec_l05Times.l0]
    rw [if_pos (by omega), drop_cons l n (by omega), wrap_succ n (by omega)]
    cases b
    · rw [if_neg (by decide), times_l0 l m hm hl d k (n + 1) false (by omega) (by omega)]
      simp
    · rw [if_pos rfl, if_pos (by omega), minutes_eq]
      simp only [Option.bind_some]
      rw [times_l0 l m hm hl d k (n + 1) _ (by omega) (by omega)]
      simp
theorem spec_times_eq {k : Nat} (l : List Int) (b : Bool) (m : Int) (hm : m ≤ 12) (hl : l.length ≤ 1048576) (hk : l.length < k) : spec_l05Times.f k l b m = some (timesC b l m) := by
  unfold spec_l05Times.f timesC timesB
  have := times_l0 l m hm hl l.length k 0 b (by omega) hk
  simpa using this
theorem timesC_zero {b : Bool} {l : List Int} {m : Int} (h : timesC b l m = 0) : b = true ∧ timesB l = true ∧ (l.length : Int) ≤ m := by
  unfold timesC at h
  split at h
  · rename_i h2
    rw [Bool.and_eq_true] at h2
    split at h
    · exact ⟨h2.1, h2.2, by assumption⟩
    · omega
  · omega
theorem times_rd {l : List Int} (h : timesB l = true) (n : Nat) (hn : n < l.length) : 1 ≤ rd l n ∧ rd l n ≤ 100000 := inB_iff.1 (rd_all h n hn)
end Go.Proofs.Ytcibhhkpnakkgaa.Pure
namespace Go.Proofs.Ytcibhhkpnakkgaa.Ext
open Go.RowKit Go.Proofs.YtcibhhkpnakkgaaW.PrintWords Go.Proofs.YtcibhhkpnakkgaaW.PrintLast Go.Proofs.YtcibhhkpnakkgaaW.PrintMore
set_option linter.unusedVariables false
set_option linter.unusedSimpArgs false
theorem size_calls (A : Option Addr) (n c : Nat) (w : World) :
    Calls Try.prog 30 #[.slice A n c] w fun e w' => e = .returned (.int .i64 n) ∧ w = w' := by
  go_enter Try.func30, Try.ntmps30
  go_wp2
  go_ret
  exact ⟨rfl, rfl⟩
theorem eqnil : ∀ (w : World) (a : Option Addr) (n c n' c' : Nat), (binOp .eql 24 (.slice a n c) (.slice none n' c')).run Try.prog w = .ok (.bool a.isNone) w := fun w a n c n' c' => Lib.run_eql_slice_nil w _ _ a n c n' c' Try.underlying24
set_option maxRecDepth 100000 in
set_option maxHeartbeats 1000000 in
theorem clone_calls (A : Option Addr) (c : Nat) (l : List Int) (w : World) (hr : Kd.C (Kd.int .i64) w A l.length l) (hl : l.length ≤ 1048576) :
    Calls Try.prog 29 #[.slice A l.length c] w fun e w' => ∃ v0_ : Value, e = .returned v0_ ∧ Kd.R (Kd.int .i64) 2 w' w.heap.size (fun _ => True) v0_ l ∧ Below w.heap.size w w' := by
  cases A with
  | none =>
    have h0 : l = [] := by
      cases l with
      | nil => rfl
      | cons x xs => obtain ⟨ad, e, _⟩ := hr.2.2 (by simp); cases e
    subst h0
    have q := eqnil
    go_enter Try.func29, Try.ntmps29
    go_wp2
    go_ret
    exact ⟨_, rfl, Kd.R_nil _ _ _ _ _, Below.refl _ _⟩
  | some ad =>
    have HR := Aside0.mk hr
    have HB := Aside0.mk (Below.refl w.heap.size w)
    have HN := Aside0.mk hl
    clear hr hl
    have q := eqnil
    go_enter Try.func29, Try.ntmps29
    go_wp2_with (first | ((with_reducible refine gate_dst (N := 5) rfl ?_); refine Kd.R_lit (Kd.int .i64) _ 2 ?hg (N := 5) ?hd (xs := ([] : List Int)) (inner := []) (ok := fun _ => True) (okp := fun _ => True) ?hr ?hp (fun _ hk => hk) trivial (Below.refl _ _) (Nat.le_refl _) (by simp) ?_; (case hd => rfl); (case hg => rfl); (case hr => first | (go_simp; done) | (go_simp; rfl)); (case hp => exact (Reps.none _ _)); intro v115 w3 ho4 hb hg_ hnew_; clear hg_ hnew_; have HO := Aside0.mk (Kd.R_lower ho4 (below_size (by repeat (first | (with_reducible first | exact HB.out | apply below_alloc | apply pw_below_drewN | apply below_drew1) | exact HB.out)))); have n1_ := Aside0.mk (below_step (by repeat (first | (with_reducible first | exact HB.out | apply below_alloc | apply pw_below_drewN | apply below_drew1) | exact HB.out)) hb); clear HB; have HB := n1_; clear n1_; clear hb ho4) | ((with_reducible refine gate_builtin (b := .append) (xs := #[.tmp 5, .tmp 6]) rfl ?_); at_builtin; refine Kd.R_append_row (Value.int .i64) (0 : Int) (w0 := w) w.heap.size rfl (.tmp 5) (.tmp 6) 24 2 (.int .i64 0) 8 rfl Try.underlying24 info_i64 rfl (by decide) v115 [] l (some ad) l.length c (fun _ => True) rfl rfl (fun _ _ => trivial) HO.out (Kd.C_below HR.out HB.out) HB.out (below_size HB.out) (by have := HN.out; simp; omega) ?_; intro v119 w9 ho hb hg' hat))
    go_ret
    exact ⟨_, rfl, (by rw [List.nil_append] at ho; exact ho), hb⟩
theorem index_calls (A : Option Addr) (c : Nat) (l : List Int) (x : Int) (w : World) (hr : Kd.C (Kd.int .i64) w A l.length l) :
    Calls Try.prog 54 #[.slice A l.length c, .int .i64 x] w fun e w' => e = .returned (.int .i64 (idxI (fun y => x == y) l)) ∧ w = w' := by
  have HR := Aside0.mk hr
  have hbig : l.length ≤ 9223372036854775807 := hr.2.1
  clear hr
  go_enter Try.func54, Try.ntmps54
  go_wp2
  go_loopg [5, 8] l.length (fun gg _ s8 wr => ∃ kk : Nat, kk ≤ l.length ∧ l.length - kk ≤ gg ∧ s8 = .int .i64 kk ∧ w = wr ∧ Aside0 (∀ j, j < kk → (x == l.getD j 0) = false))
  case atStart => exact ⟨0, Nat.zero_le _, by omega, rfl, rfl, ⟨fun j hj => absurd hj (Nat.not_lt_zero _)⟩⟩
  case round =>
    obtain ⟨kk, hkk, hg, rfl, rfl, A1⟩ := hrel
    by_cases hlt : kk < l.length
    · have hltz : (kk : Int) < (l.length : Int) := by omega
      obtain ⟨ad, rfl, hc⟩ := Kd.at_int HR.out kk (by omega) (by omega)
      rw [Int.toNat_natCast] at hc
      generalize hy : rd l kk = y at hc
      have B := Aside0.mk hy
      clear hy
      cases hq : (x == y) with
      | true =>
        go_wp2
        go_ret
        refine ⟨?_, rfl⟩
        rw [idxI_hit _ l kk hlt (by have := B.out; unfold rd at this; simp only [Int.toNat_natCast] at this; rw [this]; exact hq) A1.out]
        rfl
      | false =>
        go_wp2
        go_roundg (l.length - (kk + 1))
        case measure => omega
        case rel =>
          refine ⟨kk + 1, by omega, by omega, by go_num, rfl, ⟨fun j hj => ?_⟩⟩
          by_cases e : j = kk
          · subst e
            have := B.out; unfold rd at this; simp only [Int.toNat_natCast] at this; rw [this]; exact hq
          · exact A1.out j (by omega)
    · have hltz : ¬ (kk : Int) < (l.length : Int) := by omega
      have : kk = l.length := by omega
      subst this
      go_wp2
      go_ret
      refine ⟨?_, rfl⟩
      rw [idxI_miss _ l A1.out]
      rfl
theorem contains_calls (A : Option Addr) (c : Nat) (l : List Int) (x : Int) (w : World) (hr : Kd.C (Kd.int .i64) w A l.length l) :
    Calls Try.prog 44 #[.slice A l.length c, .int .i64 x] w fun e w' => e = .returned (.bool (l.any (fun y => x == y))) ∧ w = w' := by
  have HI := Aside0.mk (idxI_any (fun y => x == y) l)
  go_enter Try.func44, Try.ntmps44
  go_wp2_with fail
  refine (index_calls A c l x w hr).mono ?_
  rintro e w1 ⟨rfl, rfl⟩
  go_wp2
  go_ret
  exact ⟨by rw [← HI.out]; rfl, rfl⟩
theorem fold_succ {α : Type} (f : α → Nat → α) (s : α) (n : Nat) : (List.range (n + 1)).foldl f s = f ((List.range n).foldl f s) n := by rw [List.range_succ, List.foldl_append]; rfl
theorem cell_of {w : World} {g : Nat} {v : Value} {t : TypeId} (h : w.heap[g]? = some (.cells #[v] t (0, 0))) : w.cell? ⟨g, 0, none⟩ = some v := (blk_cell h 0).trans rfl
theorem blk_newAt {W : World} {n : Nat} (h : W.heap.size = n) (o : Obj) : (W.alloc o).heap[n]? = some o := by subst h; exact blk_new W o
theorem blk_lt' {w : World} {g : Nat} {o : Obj} (h : w.heap[g]? = some o) : g < w.heap.size := (Array.getElem?_eq_some_iff.1 h).1
def okF (gl gb : Nat) : Nat → Prop := fun k => k ≠ gl ∧ k ≠ gb
def wrF (gl gb : Nat) : Nat → Prop := fun k => k = gl ∨ k = gb
structure InvB (w0 : World) (B gt gd gl gb gc : Nat) (vt vd vf : Value) (td tf : TypeId) (σ : List Int × Int) (w : World) : Prop where
  ht : w.heap[gt]? = some (.cells #[vt] 24 (0, 0))
  hd : w.heap[gd]? = some (.cells #[vd] td (0, 0))
  hl : w.heap[gl]? = some (.cells #[.int .i64 σ.2] 2 (0, 0))
  hb : ∃ vb, w.heap[gb]? = some (.cells #[vb] 24 (0, 0)) ∧ Kd.R (Kd.int .i64) 2 w B (okF gl gb) vb σ.1
  hc : w.heap[gc]? = some (.cells #[vf] tf (0, 0))
  bel : Below B w0 w
section
variable {w0 w w1 w2 : World} {B gt gd gl gb gc : Nat} {vt vd vf : Value} {td tf : TypeId} {σ : List Int × Int}
theorem InvB.fresh (h : InvB w0 B gt gd gl gb gc vt vd vf td tf σ w) : ∀ k, w.heap.size ≤ k → okF gl gb k := by
  intro k hk
  obtain ⟨vb, h1, _⟩ := h.hb
  have a := blk_lt' h.hl
  have b := blk_lt' h1
  exact ⟨by omega, by omega⟩
theorem InvB.below (h : InvB w0 B gt gd gl gb gc vt vd vf td tf σ w) (hb : Below w.heap.size w w1) (hB : B ≤ w.heap.size) : InvB w0 B gt gd gl gb gc vt vd vf td tf σ w1 := by
  have mv : ∀ k, k < w.heap.size → w1.heap[k]? = w.heap[k]? := fun k h1 => hb.block k h1
  obtain ⟨vb, h1, h2⟩ := h.hb
  exact ⟨(mv _ (blk_lt' h.ht)).trans h.ht, (mv _ (blk_lt' h.hd)).trans h.hd, (mv _ (blk_lt' h.hl)).trans h.hl, ⟨vb, (mv _ (blk_lt' h1)).trans h1, Kd.R_below h2 hb⟩, (mv _ (blk_lt' h.hc)).trans h.hc, h.bel.trans (hb.mono hB)⟩
structure DistB (B gt gd gl gb gc : Nat) : Prop where
  a : gt ≠ gl
  b : gt ≠ gb
  c : gd ≠ gl
  d : gd ≠ gb
  e : gc ≠ gl
  f : gc ≠ gb
  g : gl ≠ gb
  l : B ≤ gl
  m : B ≤ gb
theorem InvB.store (h : InvB w0 B gt gd gl gb gc vt vd vf td tf σ w) (D : DistB B gt gd gl gb gc) {v : Value} {o : List Int} (N : Int) (hv : Kd.R (Kd.int .i64) 2 w B (okF gl gb) v o) :
    InvB w0 B gt gd gl gb gc vt vd vf td tf (o, N) ((w.setCell ⟨gb, 0, none⟩ v).setCell ⟨gl, 0, none⟩ (.int .i64 N)) := by
  have mv : ∀ k, k ≠ gl → k ≠ gb → ((w.setCell ⟨gb, 0, none⟩ v).setCell ⟨gl, 0, none⟩ (.int .i64 N)).heap[k]? = w.heap[k]? := fun k h1 h2 => (Below.heap_setCell _ _ _ _ h1).trans (Below.heap_setCell _ _ _ _ h2)
  obtain ⟨vb, h1, h2⟩ := h.hb
  refine ⟨(mv _ D.a D.b).trans h.ht, (mv _ D.c D.d).trans h.hd, ?_, ⟨v, ?_, Kd.R_step hv (fun k ho _ => mv k ho.1 ho.2)⟩, (mv _ D.e D.f).trans h.hc, (h.bel.setCell D.m _).setCell D.l _⟩
  · exact blk_set ((Below.heap_setCell _ _ _ _ D.g).trans h.hl) 0 _
  · exact (Below.heap_setCell _ _ _ _ (Ne.symm D.g)).trans (blk_set h1 0 _)
theorem kept_store (v u : Value) : Kept w ((w.setCell ⟨gb, 0, none⟩ v).setCell ⟨gl, 0, none⟩ u) (wrF gl gb) :=
  ⟨by simp [World.setCell], fun k _ hn => (Below.heap_setCell _ _ _ _ (fun e => hn (Or.inl e))).trans (Below.heap_setCell _ _ _ _ (fun e => hn (Or.inr e)))⟩
theorem R_kept {v : Value} {l : List Int} (h : Kd.R (Kd.int .i64) 2 w B (okF gl gb) v l) (hk : Kept w w1 (wrF gl gb)) : Kd.R (Kd.int .i64) 2 w1 B (okF gl gb) v l :=
  Kd.R_step h (fun k ho hl => hk.2 k hl (fun e => e.elim ho.1 ho.2))
theorem R_fresh {v : Value} {l : List Int} (h : Kd.R (Kd.int .i64) 2 w1 w.heap.size (fun _ => True) v l) (hB : B ≤ w.heap.size) (hf : ∀ k, w.heap.size ≤ k → okF gl gb k) : Kd.R (Kd.int .i64) 2 w1 B (okF gl gb) v l :=
  Kd.R_lower (Kd.R_mono (Kd.R_bound h) (fun k hk => hf k hk.2.1)) hB
theorem kept_trans (h : Kept w w1 (wrF gl gb)) (k : Kept w1 w2 (wrF gl gb)) : Kept w w2 (wrF gl gb) := h.then_ k (fun _ h => Or.inl h)
theorem kept_below (hb : Below w.heap.size w w1) : Kept w w1 (wrF gl gb) := Kept.of_below hb _
theorem cellB {v : Value} {t : TypeId} {g : Nat} (h : w.heap[g]? = some (.cells #[v] t (0, 0))) (hb : Below w.heap.size w w1) : w1.cell? ⟨g, 0, none⟩ = some v := cell_of ((hb.block g (blk_lt' h)).trans h)
end
theorem reads_new1 (W : World) (t : TypeId) (n : Nat) (hn : W.heap.size = n) (a : Int) : Kd.C (Kd.int .i64) (W.alloc (.cells #[.int .i64 a] t (0, 0))) (some ⟨n, 0, none⟩) 1 [a] := by
  subst hn
  refine Kd.C_of_reads (enc := Value.int .i64) (d := (0 : Int)) (h1 := fun _ => rfl) ⟨rfl, by simp, fun hp => ⟨_, rfl, fun j hj => ?_⟩⟩
  obtain rfl : j = 0 := by simpa using hj
  rw [add_plain]
  exact (blk_cell (blk_new W _) 0).trans rfl
open Go.RowKit Go.Proofs.YtcibhhkpnakkgaaW.PrintWords Go.Proofs.YtcibhhkpnakkgaaW.PrintLast Go.Proofs.YtcibhhkpnakkgaaW.PrintMore Go.Proofs.Ytcibhhkpnakkgaa.Q Go.Proofs.Ytcibhhkpnakkgaa.Pure
set_option linter.unusedVariables false
set_option linter.unusedSimpArgs false
def mostS (sums : List Int) : Int := foldMax (sums ++ [0])
def updS (lst sums : List Int) (σ : List Int × Int) : List Int × Int := if σ.2 < 0 ∨ mostS sums < σ.2 then (lst, mostS sums) else σ
def grownS (sums : List Int) (k : Nat) : List Int := if k = sums.length then sums ++ [0] else sums
def nextS (t sums : List Int) (p k : Nat) : List Int := (grownS sums k).set k (wrap64 (rd (grownS sums k) k + rd t p))
def chooseS (t : List Int) (cut : Nat) : Nat → List Int → List Int → List Int × Int → List Int × Int
  | 0, lst, sums, σ => updS lst sums σ
  | r + 1, lst, sums, σ => (List.range (min (sums.length + 1) cut)).foldl (fun σ (k : Nat) => chooseS t cut r (lst ++ [(k : Int)]) (nextS t sums lst.length k) σ) σ
def stepS (t : List Int) (cut r : Nat) (lst sums : List Int) (σ : List Int × Int) (k : Nat) : List Int × Int := chooseS t cut r (lst ++ [(k : Int)]) (nextS t sums lst.length k) σ
theorem chooseS_succ (t : List Int) (cut r : Nat) (lst sums : List Int) (σ : List Int × Int) : chooseS t cut (r + 1) lst sums σ = (List.range (min (sums.length + 1) cut)).foldl (stepS t cut r lst sums) σ := rfl
theorem skipN_ {P : Program} {ops : Array Oper} {Q : Exit → Act → World → Prop} {oi : Oper} {a : Act} {w w1 : World} {K : Act → World → Prop} (hw : Region.wanted oi (yielded ops a.tmps) = true) (hN : oi.dst = none) (hrun : (execOp a.eval oi).run P w = .ok .skip w1)
    (h : ∀ w2, w2 = w1 → K a w2) : if Region.wanted oi (yielded ops a.tmps) = true then Oper.wp P oi a w K Q else K (a.put none undef) w := skip_ hw hN hrun (h w1 rfl)
theorem foldMax_n (A : Option Addr) (n c : Nat) (l : List Int) (hn : l.length = n) (w : World) (hr : Kd.C (Kd.int .i64) w A l.length l) (h0 : 0 < l.length) :
    Calls Try.prog 22 #[.slice A n c] w fun e w' => e = .returned (.int .i64 (foldMax l)) ∧ w = w' := by
  subst hn
  exact foldMax_calls A c l w hr h0
def lbS (gt gl gb gq gc : Nat) : Array Value := #[.pointer (some ⟨gt, 0, none⟩), .pointer (some ⟨gl, 0, none⟩), .pointer (some ⟨gb, 0, none⟩), .pointer (some ⟨gq, 0, none⟩), .pointer (some ⟨gc, 0, none⟩)]
abbrev InvS (w0 : World) (B gt gq gl gb gc : Nat) (A0 : Option Addr) (c0 : Nat) (l0 : List Int) (cut : Nat) (σ : List Int × Int) (w : World) : Prop :=
  InvB w0 B gt gq gl gb gc (.slice A0 l0.length c0) (.int .i64 (cut : Int)) (.func (.func 28) #[] (lbS gt gl gb gq gc)) 2 43 σ w
set_option maxRecDepth 100000 in
set_option maxHeartbeats 1000000 in
theorem share_calls (w0 : World) (gt gq gl gb gc : Nat) (A0 : Option Addr) (c0 : Nat) (l0 : List Int) (cut : Nat)
    (HR0 : Aside0 (Kd.C (Kd.int .i64) w0 A0 l0.length l0)) (hc0 : Aside0 (l0.length ≤ c0)) (HN : Aside0 (l0.length ≤ 8)) (HCut : Aside0 (cut ≤ 6))
    (D : Aside0 (DistB w0.heap.size gt gq gl gb gc)) : ∀ (r : Nat) (lst : List Int) (A : Option Addr) (c : Nat) (sums : List Int) (As : Option Addr) (cs : Nat) (σ : List Int × Int) (w : World), Aside0 (lst.length + r = l0.length) → Aside0 (sums.length ≤ lst.length) → Aside0 (lst.length ≤ c) → Aside0 (sums.length ≤ cs) →
      Aside0 (InvS w0 w0.heap.size gt gq gl gb gc A0 c0 l0 cut σ w) → Aside0 (Kd.R (Kd.int .i64) 2 w w0.heap.size (okF gl gb) (.slice A lst.length c) lst) → Aside0 (Kd.R (Kd.int .i64) 2 w w0.heap.size (okF gl gb) (.slice As sums.length cs) sums) →
      Calls Try.prog 28 #[.slice A lst.length c, .slice As sums.length cs, .pointer (some ⟨gt, 0, none⟩), .pointer (some ⟨gl, 0, none⟩), .pointer (some ⟨gb, 0, none⟩), .pointer (some ⟨gq, 0, none⟩), .pointer (some ⟨gc, 0, none⟩)] w
        fun e w' => e = .returned (.tuple #[]) ∧ InvS w0 w0.heap.size gt gq gl gb gc A0 c0 l0 cut (chooseS l0 cut r lst sums σ) w' ∧ Kept w w' (wrF gl gb) := by
  intro r
  induction r with
  | zero =>
    intro lst A c sums As cs σ w HO HSL HC HCs HV HR HRs
    have h1 : ((lst.length : Int) == (l0.length : Int)) = true := by have := HO.out; rw [beq_iff_eq]; omega
    have ht := cell_of HV.out.ht
    have HNL : Aside0 (sums.length ≤ 8) := ⟨by have := HSL.out; have := HO.out; have := HN.out; omega⟩
    go_enter Try.func28, Try.ntmps28
    go_wp2_with fail
    refine (clone_calls As cs sums w (Kd.R_reads' HRs.out).2.2 (by have := HNL.out; omega)).mono ?_
    rintro e w1 ⟨v18, rfl, ho, hb⟩
    have HO18 := Aside0.mk ho
    have HB := Aside0.mk hb
    clear ho hb ht
    go_wp2_with (first | ((with_reducible refine gate_builtin (b := .append) (xs := #[.tmp 18, .tmp 19]) rfl ?_); at_builtin; refine Kd.R_append (Kd.int .i64) (w0 := w) w.heap.size rfl (.tmp 18) (.tmp 19) 24 2 (.int .i64 0) 8 rfl Try.underlying24 info_i64 rfl (by decide) (by omega) v18 sums (0 : Int) [.int .i64 0] (fun _ => True) (fun _ => False) rfl rfl ?aP (fun _ hk => hk.elim) ?aF ?aO ?aB ?aS ?aL ?_; (case aP => exact rfl); (case aB => exact HB.out); (case aF => exact (fun _ _ => trivial)); (case aO => exact HO18.out); (case aS => exact (below_size HB.out)); (case aL => have := HNL.out; omega); intro v20 w2 ho hb hg' hat; clear hg' hat; obtain ⟨A20, c20, rfl, _, hC20⟩ := Kd.R_reads ho; have HC20 := Aside0.mk hC20; have HB2 := Aside0.mk hb; clear HB HO18 ho hb hC20))
    refine (foldMax_n A20 _ c20 (sums ++ [0]) (by simp) _ HC20.out (by simp)).mono ?_
    rintro e w3 ⟨rfl, rfl⟩
    have HV2 := Aside0.mk (HV.out.below HB2.out (below_size HV.out.bel))
    have HR2 := Aside0.mk (Kd.R_below HR.out HB2.out)
    have HK := Aside0.mk (kept_below (gl := gl) (gb := gb) HB2.out)
    clear HB2 HC20
    have hcl := cell_of HV2.out.hl
    have hfl := blk_frozen HV2.out.hl 0
    obtain ⟨vb, hb_, _⟩ := HV2.out.hb
    have hcb := cell_of hb_
    have hfb := blk_frozen hb_ 0
    have hcl2 : (w2.setCell ⟨gb, 0, none⟩ (.slice A lst.length c)).cell? ⟨gl, 0, none⟩ = some (.int .i64 σ.2) := cell_of ((Below.heap_setCell _ _ _ _ D.out.g).trans HV2.out.hl)
    have hfl2 : (w2.setCell ⟨gb, 0, none⟩ (.slice A lst.length c)).frozen? ⟨gl, 0, none⟩ = false := blk_frozen ((Below.heap_setCell _ _ _ _ D.out.g).trans HV2.out.hl) 0
    clear hb_
    have HE := Aside0.mk (show chooseS l0 cut 0 lst sums σ = if σ.2 < 0 ∨ foldMax (sums ++ [0]) < σ.2 then (lst, foldMax (sums ++ [0])) else σ from rfl)
    generalize foldMax (sums ++ [0]) = N at *
    obtain ⟨s, hs⟩ : ∃ s, σ.2 = s := ⟨_, rfl⟩
    rw [hs] at hcl hcl2 HE
    clear hs
    by_cases c1 : s < 0
    · have d1 : decide (s < 0) = true := decide_eq_true c1
      clear c1
      go_wp2
      refine bodyPost_ret (results_none rfl _ _ _) rfl ?_
      rw [HE.out, if_pos (Or.inl (of_decide_eq_true d1))]
      exact ⟨rfl, HV2.out.store D.out _ HR2.out, kept_trans HK.out (kept_store _ _)⟩
    · have d1 : decide (s < 0) = false := decide_eq_false c1
      clear c1
      by_cases c2 : N < s
      · have d2 : decide (N < s) = true := decide_eq_true c2
        clear c2
        go_wp2
        refine bodyPost_ret (results_none rfl _ _ _) rfl ?_
        rw [HE.out, if_pos (Or.inr (of_decide_eq_true d2))]
        exact ⟨rfl, HV2.out.store D.out _ HR2.out, kept_trans HK.out (kept_store _ _)⟩
      · have d2 : decide (N < s) = false := decide_eq_false c2
        clear c2
        go_wp2
        refine bodyPost_ret (results_none rfl _ _ _) rfl ?_
        rw [HE.out, if_neg (by rintro (h | h); exact absurd h (of_decide_eq_false d1); exact absurd h (of_decide_eq_false d2))]
        exact ⟨rfl, HV2.out, HK.out⟩
  | succ r ih =>
    intro lst A c sums As cs σ w HO HSL HC HCs HV HR HRs
    have hl8 : l0.length ≤ 8 := HN.out
    have HNL : Aside0 (sums.length ≤ lst.length) := HSL
    have hs8 : sums.length ≤ 8 := by have := HSL.out; have := HO.out; omega
    have hcut6 : cut ≤ 6 := HCut.out
    have h1 : ((lst.length : Int) == (l0.length : Int)) = false := by have := HO.out; rw [beq_eq_false_iff_ne]; omega
    have ht := cell_of HV.out.ht
    obtain ⟨ad, eA, _⟩ := Kd.at_int HR0.out (lst.length : Int) (by omega) (by have := HO.out; omega)
    subst eA
    go_enter Try.func28, Try.ntmps28
    go_wp2_with fail
    clear ht h1
    refine start_ (n := 6) (S := fun w' => w'.cell? ⟨gq, 0, none⟩ = some (.int .i64 (cut : Int)) ∧ Below w.heap.size w w') (ds := []) #[false, false, false, false, false, false] (by kernel_rfl) rfl rfl ⟨(cellB HV.out.hd (below_drew (Below.refl _ _))), (below_drew (Below.refl _ _))⟩ (fun hHeld => ?_)
    refine pure_ (i := 0) (N := some 31) (v := ?_) (a' := ?_) #[true, false, false, false, false, false] rfl rfl (by kernel_rfl) (fun _ _ _ h => h) (Or.inl ⟨by rfl, ?_⟩) ?_ ?_
    rotate_left
    · intro w'
      go_simp
      with_reducible rfl
    rotate_left
    · simp only [Act.put, List.setIfInBounds_toArray, List.set_cons_zero, List.set_cons_succ, i64_w, i32_w]
      rfl
    refine pure_ (i := 5) (N := some 36) (v := ?_) (a' := ?_) #[true, false, false, false, false, true] rfl rfl (by kernel_rfl) (fun _ _ _ h => h) (Or.inl ⟨by rfl, ?_⟩) ?_ ?_
    rotate_left
    · intro w'
      go_simp
      with_reducible rfl
    rotate_left
    · simp only [Act.put, List.setIfInBounds_toArray, List.set_cons_zero, List.set_cons_succ, i64_w, i32_w]
      rfl
    refine take_ (i := 3) (N := some 34) (v := ?_) (a' := ?_) #[true, false, false, true, false, true] rfl rfl (by kernel_rfl) (fun _ _ _ h => h) (Or.inl ⟨by rfl, ?_⟩) hHeld ?_ ?_
    rotate_left
    · rintro w' ⟨s0, s1⟩
      go_simp
      with_reducible rfl
    rotate_left
    · simp only [Act.put, List.setIfInBounds_toArray, List.set_cons_zero, List.set_cons_succ, i64_w, i32_w]
      rfl
    refine one_ (i := 1) (N := some 32) #[true, true, false, true, false, true] rfl rfl (by kernel_rfl) (by decide) (fun K hK => ?_)
    refine goes_ Try.func30 (by kernel_rfl) rfl #[.slice As sums.length cs] (by rfl) rfl rfl (by simp only [List.map_toArray, List.map_cons, List.map_nil]; rfl) ?_
    with_reducible refine ((size_calls As _ cs _)).mono ?_
    rintro e w3 ⟨rfl, rfl⟩
    refine ⟨_, rfl, ?_⟩
    refine hK.out _ _ ⟨hHeld.1, hHeld.2⟩ (fun hHeld => ?_)
    clear hK K
    refine norm_ (a' := ?_) ?_ ?_
    rotate_left
    · show Act.put _ (some 32) _ = _
      simp only [Act.put, List.setIfInBounds_toArray, List.set_cons_zero, List.set_cons_succ, i64_w, i32_w]
      rfl
    refine pure_ (i := 2) (N := some 33) (v := ?_) (a' := ?_) #[true, true, true, true, false, true] rfl rfl (by kernel_rfl) (fun _ _ _ h => h) (Or.inl ⟨by rfl, ?_⟩) ?_ ?_
    rotate_left
    · intro w'
      go_simp
      with_reducible rfl
    rotate_left
    · simp only [Act.put, List.setIfInBounds_toArray, List.set_cons_zero, List.set_cons_succ, i64_w, i32_w]
      rfl
    refine pure_ (i := 4) (N := some 35) (v := ?_) (a' := ?_) #[true, true, true, true, true, true] rfl rfl (by kernel_rfl) (fun _ _ _ h => h) (Or.inl ⟨by rfl, ?_⟩) ?_ ?_
    rotate_left
    · intro w'
      go_simp
      with_reducible rfl
    rotate_left
    · simp only [Act.put, List.setIfInBounds_toArray, List.set_cons_zero, List.set_cons_succ, i64_w, i32_w]
      rfl
    refine done_ (by kernel_rfl) ?_
    obtain ⟨M, hM⟩ : ∃ M, min (sums.length + 1) cut = M := ⟨_, rfl⟩
    have hm : (if (cut : Int) < wrap64 ((sums.length : Int) + 1) then (cut : Int) else wrap64 ((sums.length : Int) + 1)) = (M : Int) := by
      rw [wrap_succ _ (by omega)]
      split <;> omega
    have hM1 : M ≤ sums.length + 1 := by omega
    have hM2 : M ≤ cut := by omega
    have HM := Aside0.mk hM
    rw [hm]
    clear hm hM hHeld
    go_wp2_with fail
    go_loopg [10, 11, 36] M (fun gg _ _ s36 wr => ∃ k : Nat, k ≤ M ∧ M - k ≤ gg ∧ s36 = .int .i64 k ∧ Aside0 (InvS w0 w0.heap.size gt gq gl gb gc (some ad) c0 l0 cut ((List.range k).foldl (stepS l0 cut r lst sums) σ) wr) ∧ Aside0 (Kept w wr (wrF gl gb)))
    case atStart => exact ⟨0, by omega, by omega, rfl, ⟨HV.out.below (below_drew (Below.refl _ _)) (below_size HV.out.bel)⟩, ⟨kept_below (below_drew (Below.refl _ _))⟩⟩
    case round =>
      obtain ⟨k, hk, hg, rfl, HV1, HK⟩ := hrel
      by_cases hlt : k < M
      · have hltz : (k : Int) < (M : Int) := by omega
        have HR1 := Aside0.mk (R_kept HR.out HK.out)
        have HRs1 := Aside0.mk (R_kept HRs.out HK.out)
        have HS := Aside0.mk (fold_succ (stepS l0 cut r lst sums) σ k)
        generalize (List.range k).foldl (stepS l0 cut r lst sums) σ = σi at HV1 HS
        have HCo := Aside0.mk (Kd.R_reads' HR1.out).2.2
        have HCs1 := Aside0.mk (Kd.R_reads' HRs1.out).2.2
        go_wp2_with fail
        refine (clone_calls As cs sums _ HCs1.out (by omega)).mono ?_
        rintro e w4 ⟨v40, rfl, ho, hb⟩
        obtain ⟨A40, cn, rfl, _, _⟩ := Kd.R_reads ho
        have HO40 := Aside0.mk ho
        have HB4 := Aside0.mk hb
        clear ho hb
        go_wp2_with fail
        refine (size_calls As _ cs _).mono ?_
        rintro e w3 ⟨rfl, rfl⟩
        obtain ⟨xt, hxt⟩ : ∃ xt, rd l0 (lst.length : Int) = xt := ⟨_, rfl⟩
        by_cases heq : k = sums.length
        · have hb0 : ((k : Int) == (sums.length : Int)) = true := by rw [beq_iff_eq]; omega
          have HNX0 := Aside0.mk (show grownS sums k = sums ++ [0] from if_pos heq)
          have HKL := Aside0.mk (show k < sums.length + 1 by omega)
          clear heq
          go_wp2_with (first | ((with_reducible refine gate_builtin (b := .append) (xs := #[.tmp 45, .tmp 46]) rfl ?_); at_builtin; refine Kd.R_append (Kd.int .i64) (w0 := wr) wr.heap.size rfl (.tmp 45) (.tmp 46) 24 2 (.int .i64 0) 8 rfl Try.underlying24 info_i64 rfl (by decide) (by omega) _ sums (0 : Int) [.int .i64 0] (fun _ => True) (fun _ => False) rfl rfl ?aP (fun _ hk => hk.elim) ?aF ?aO ?aB ?aS ?aL ?_; (case aP => exact rfl); (case aB => exact HB4.out); (case aF => exact (fun _ _ => trivial)); (case aO => exact HO40.out); (case aS => exact (below_size HB4.out)); (case aL => omega); intro v47 w5 ho hb hg' hat; clear hg' hat; obtain ⟨gn, cn, rfl, gb9, _⟩ := Kd.R_form ho (by simp); have HNX := Aside0.mk ho; have HB5 := Aside0.mk hb; have GN := Aside0.mk gb9; clear HB4 HO40 ho hb gb9))
          clear hb0
          obtain ⟨nx, hnx⟩ : ∃ nx, sums ++ [0] = nx := ⟨_, rfl⟩
          obtain ⟨L, hnl0⟩ : ∃ L, sums.length + 1 = L := ⟨_, rfl⟩
          have hnl : nx.length = L := by rw [← hnx, ← hnl0]; simp
          rw [hnx] at HNX HNX0
          rw [hnl] at HNX
          (first | rw [show Value.slice (some ⟨gn, 0, none⟩) (sums.length + 1) cn = Value.slice (some ⟨gn, 0, none⟩) L cn by rw [hnl0]] | rw [hnx, hnl] | simp only [hnx, hnl])
          have hL9 : k < L ∧ L ≤ lst.length + 1 := by have := HNL.out; have := HKL.out; omega
          obtain ⟨xn, hxn⟩ : ∃ xn, rd nx (k : Int) = xn := ⟨_, rfl⟩
          obtain ⟨hcn, hfn⟩ := Kd.R_celln 0 HNX.out (k : Int) (by omega) (by omega)
          change _ = some (Value.int .i64 (rd nx (k : Int))) at hcn
          rw [hxn, Int.toNat_natCast] at hcn
          rw [Int.toNat_natCast] at hfn
          have HV5 := Aside0.mk (HV1.out.below HB5.out (below_size HV1.out.bel))
          have hct0 := (Kd.at_int (Kd.C_below HR0.out HV5.out.bel) (lst.length : Int) (by omega) (by have := HO.out; omega))
          obtain ⟨ad', ea, hct⟩ := hct0
          injection ea with ea
          subst ea
          rw [hxt, Int.toNat_natCast] at hct
          have hll : (lst.length : Int) < (l0.length : Int) := by have := HO.out; omega
          have hkn : (k : Int) < (L : Int) := by omega
          have HLL := Aside0.mk (show (nx.set k (wrap64 (xn + xt))).length = L by rw [List.length_set]; exact hnl)
          have HNXE := Aside0.mk (show nextS l0 sums lst.length k = nx.set k (wrap64 (xn + xt)) by unfold nextS; rw [HNX0.out, hxn, hxt])
          replace HS : Aside0 ((List.range (k + 1)).foldl (stepS l0 cut r lst sums) σ = chooseS l0 cut r (lst ++ [(k : Int)]) (nextS l0 sums lst.length k) σi) := ⟨HS.out⟩
          have HNL2 := Aside0.mk (show (nx.set k (wrap64 (xn + xt))).length ≤ lst.length + 1 by rw [List.length_set]; omega)
          clear hxn hxt hnx HNX0 hnl hnl0
          refine start_ (n := 12) (S := fun w' => w'.cell? ⟨gn, k, none⟩ = some (.int .i64 xn) ∧ w'.frozen? ⟨gn, k, none⟩ = false ∧ w'.cell? ⟨gt, 0, none⟩ = some (.slice (some ad) l0.length c0) ∧ w'.cell? (ad.add lst.length) = some (.int .i64 xt) ∧ Below w5.heap.size w5 w' ∧ Kd.R (Kd.int .i64) 2 w' wr.heap.size (fun _ => True) (.slice (some ⟨gn, 0, none⟩) L cn) nx) (ds := [11]) #[false, false, false, false, false, false, false, false, false, false, false, false] (by kernel_rfl) rfl rfl ⟨hcn, hfn, (cellB (HV5.out.ht) (below_drew (Below.refl _ _))), hct, (below_drew (Below.refl _ _)), (Kd.R_drew HNX.out)⟩ (fun hHeld => ?_)
          refine pure_ (i := 0) (N := some 48) (v := ?_) (a' := ?_) #[true, false, false, false, false, false, false, false, false, false, false, false] rfl rfl (by kernel_rfl) (fun _ _ _ h => h) (Or.inl ⟨by rfl, ?_⟩) ?_ ?_
          rotate_left
          · intro w'
            go_simp
            with_reducible rfl
          rotate_left
          · simp only [Act.put, List.setIfInBounds_toArray, List.set_cons_zero, List.set_cons_succ, i64_w, i32_w]
            rfl
          refine pure_ (i := 1) (N := some 49) (v := ?_) (a' := ?_) #[true, true, false, false, false, false, false, false, false, false, false, false] rfl rfl (by kernel_rfl) (fun _ _ _ h => h) (Or.inl ⟨by rfl, ?_⟩) ?_ ?_
          rotate_left
          · intro w'
            go_simp
            with_reducible rfl
          rotate_left
          · simp only [Act.put, List.setIfInBounds_toArray, List.set_cons_zero, List.set_cons_succ, i64_w, i32_w]
            rfl
          refine pure_ (i := 2) (N := some 50) (v := ?_) (a' := ?_) #[true, true, true, false, false, false, false, false, false, false, false, false] rfl rfl (by kernel_rfl) (fun _ _ _ h => h) (Or.inl ⟨by rfl, ?_⟩) ?_ ?_
          rotate_left
          · intro w'
            go_simp
            with_reducible rfl
          rotate_left
          · simp only [Act.put, List.setIfInBounds_toArray, List.set_cons_zero, List.set_cons_succ, i64_w, i32_w]
            rfl
          refine pure_ (i := 5) (N := some 53) (v := ?_) (a' := ?_) #[true, true, true, false, false, true, false, false, false, false, false, false] rfl rfl (by kernel_rfl) (fun _ _ _ h => h) (Or.inl ⟨by rfl, ?_⟩) ?_ ?_
          rotate_left
          · intro w'
            go_simp
            with_reducible rfl
          rotate_left
          · simp only [Act.put, List.setIfInBounds_toArray, List.set_cons_zero, List.set_cons_succ, i64_w, i32_w]
            rfl
          refine pure_ (i := 6) (N := some 54) (v := ?_) (a' := ?_) #[true, true, true, false, false, true, true, false, false, false, false, false] rfl rfl (by kernel_rfl) (fun _ _ _ h => h) (Or.inl ⟨by rfl, ?_⟩) ?_ ?_
          rotate_left
          · intro w'
            go_simp
            with_reducible rfl
          rotate_left
          · simp only [Act.put, List.setIfInBounds_toArray, List.set_cons_zero, List.set_cons_succ, i64_w, i32_w]
            rfl
          refine take_ (i := 3) (N := some 51) (v := ?_) (a' := ?_) #[true, true, true, true, false, true, true, false, false, false, false, false] rfl rfl (by kernel_rfl) (fun _ _ _ h => h) (Or.inl ⟨by rfl, ?_⟩) hHeld ?_ ?_
          rotate_left
          · rintro w' ⟨s0, s1, s2, s3, s4, s5⟩
            go_simp
            with_reducible rfl
          rotate_left
          · simp only [Act.put, List.setIfInBounds_toArray, List.set_cons_zero, List.set_cons_succ, i64_w, i32_w]
            rfl
          refine take_ (i := 4) (N := some 52) (v := ?_) (a' := ?_) #[true, true, true, true, true, true, true, false, false, false, false, false] rfl rfl (by kernel_rfl) (fun _ _ _ h => h) (Or.inl ⟨by rfl, ?_⟩) hHeld ?_ ?_
          rotate_left
          · rintro w' ⟨s0, s1, s2, s3, s4, s5⟩
            go_simp
            with_reducible rfl
          rotate_left
          · simp only [Act.put, List.setIfInBounds_toArray, List.set_cons_zero, List.set_cons_succ, i64_w, i32_w]
            rfl
          refine pure_ (i := 7) (N := some 55) (v := ?_) (a' := ?_) #[true, true, true, true, true, true, true, true, false, false, false, false] rfl rfl (by kernel_rfl) (fun _ _ _ h => h) (Or.inl ⟨by rfl, ?_⟩) ?_ ?_
          rotate_left
          · intro w'
            go_simp
            with_reducible rfl
          rotate_left
          · simp only [Act.put, List.setIfInBounds_toArray, List.set_cons_zero, List.set_cons_succ, i64_w, i32_w]
            rfl
          refine take_ (i := 8) (N := some 56) (v := ?_) (a' := ?_) #[true, true, true, true, true, true, true, true, true, false, false, false] rfl rfl (by kernel_rfl) (fun _ _ _ h => h) (Or.inl ⟨by rfl, ?_⟩) hHeld ?_ ?_
          rotate_left
          · rintro w' ⟨s0, s1, s2, s3, s4, s5⟩
            go_simp
            with_reducible rfl
          rotate_left
          · simp only [Act.put, List.setIfInBounds_toArray, List.set_cons_zero, List.set_cons_succ, i64_w, i32_w]
            rfl
          refine pure_ (i := 9) (N := some 57) (v := ?_) (a' := ?_) #[true, true, true, true, true, true, true, true, true, true, false, false] rfl rfl (by kernel_rfl) (fun _ _ _ h => h) (Or.inl ⟨by rfl, ?_⟩) ?_ ?_
          rotate_left
          · intro w'
            go_simp
            with_reducible rfl
          rotate_left
          · simp only [Act.put, List.setIfInBounds_toArray, List.set_cons_zero, List.set_cons_succ, i64_w, i32_w]
            rfl
          refine pure_ (i := 10) (N := some 58) (v := ?_) (a' := ?_) #[true, true, true, true, true, true, true, true, true, true, true, false] rfl rfl (by kernel_rfl) (fun _ _ _ h => h) (Or.inl ⟨by rfl, ?_⟩) ?_ ?_
          rotate_left
          · intro w'
            go_simp
            with_reducible rfl
          rotate_left
          · simp only [Act.put, List.setIfInBounds_toArray, List.set_cons_zero, List.set_cons_succ, i64_w, i32_w]
            rfl
          refine last_ (i := 11) (N := none) #[true, true, true, true, true, true, true, true, true, true, true, true] rfl rfl (by kernel_rfl) (by decide) (fun K hK => ?_)
          have g0_ := hHeld.1
          have g1_ := hHeld.2.1
          refine skipN_ (w1 := ?_) (by rfl) rfl ?_ ?_
          rotate_left
          · go_simp
            rfl
          intro w7 hw7
          have HN7 := Aside0.mk (show Kd.R (Kd.int .i64) 2 w7 wr.heap.size (fun _ => True) (.slice (some ⟨gn, 0, none⟩) L cn) (nx.set k (wrap64 (xn + xt))) from by rw [hw7]; exact (Kd.R_putg hHeld.2.2.2.2.2 (k : Int) (wrap64 (xn + xt))).1)
          have HB7 := Aside0.mk (show Below wr.heap.size wr w7 from by rw [hw7]; exact below_set (HB5.out.trans (hHeld.2.2.2.2.1.mono (below_size HB5.out))) GN.out)
          refine hK.out _ _ ?_
          clear hK K
          refine done_ (by kernel_rfl) ?_
          have HV7 := Aside0.mk (HV1.out.below HB7.out (below_size HV1.out.bel))
          have HC7 := Aside0.mk (Kd.C_below HCo.out HB7.out)
          clear hw7 hcn hfn hct HNX HV5 HB5
          go_wp2_with fail
          refine start_ (n := 8) (S := fun w' => w'.cell? ⟨gc, 0, none⟩ = some (.func (.func 28) #[] (lbS gt gl gb gq gc)) ∧ Kd.C (Kd.int .i64) w' A lst.length lst ∧ Below w7.heap.size w7 w') (ds := [7]) #[false, false, false, false, false, false, false, false] (by kernel_rfl) rfl rfl ⟨(cellB HV7.out.hc (below_drew (Below.refl _ _))), (Kd.C_below HC7.out (below_drew (Below.refl _ _))), (below_drew (Below.refl _ _))⟩ (fun hHeld => ?_)
          refine pure_ (i := 1) (N := some 60) (v := ?_) (a' := ?_) #[false, true, false, false, false, false, false, false] rfl rfl (by kernel_rfl) (fun _ _ _ h => h) (Or.inl ⟨by rfl, ?_⟩) ?_ ?_
          rotate_left
          · intro w'
            go_simp
            with_reducible rfl
          rotate_left
          · simp only [Act.put, List.setIfInBounds_toArray, List.set_cons_zero, List.set_cons_succ, i64_w, i32_w]
            rfl
          refine pure_ (i := 3) (N := some 62) (v := ?_) (a' := ?_) #[false, true, false, true, false, false, false, false] rfl rfl (by kernel_rfl) (fun _ _ _ h => h) (Or.inl ⟨by rfl, ?_⟩) ?_ ?_
          rotate_left
          · intro w'
            go_simp
            with_reducible rfl
          rotate_left
          · simp only [Act.put, List.setIfInBounds_toArray, List.set_cons_zero, List.set_cons_succ, i64_w, i32_w]
            rfl
          refine pure_ (i := 6) (N := some 65) (v := ?_) (a' := ?_) #[false, true, false, true, false, false, true, false] rfl rfl (by kernel_rfl) (fun _ _ _ h => h) (Or.inl ⟨by rfl, ?_⟩) ?_ ?_
          rotate_left
          · intro w'
            go_simp
            with_reducible rfl
          rotate_left
          · simp only [Act.put, List.setIfInBounds_toArray, List.set_cons_zero, List.set_cons_succ, i64_w, i32_w]
            rfl
          refine take_ (i := 0) (N := some 59) (v := ?_) (a' := ?_) #[true, true, false, true, false, false, true, false] rfl rfl (by kernel_rfl) (fun _ _ _ h => h) (Or.inl ⟨by rfl, ?_⟩) hHeld ?_ ?_
          rotate_left
          · rintro w' ⟨s0, s1, s2⟩
            go_simp
            with_reducible rfl
          rotate_left
          · simp only [Act.put, List.setIfInBounds_toArray, List.set_cons_zero, List.set_cons_succ, i64_w, i32_w]
            rfl
          refine join_ (σ := Value × Value) 2 #[true, true, true, true, true, false, true, false] (fun s => [(61, s.1), (63, s.2)]) (fun s w' => (w'.cell? ⟨gc, 0, none⟩ = some (.func (.func 28) #[] (lbS gt gl gb gq gc)) ∧ Kd.C (Kd.int .i64) w' A lst.length lst ∧ Below w7.heap.size w7 w') ∧ Kd.R (Kd.int .i64) 2 w' w7.heap.size (fun _ => True) s.1 lst ∧ ∃ A cc, s.2 = .slice A 1 cc ∧ Kd.C (Kd.int .i64) w' A 1 [(k : Int)]) ?_ ?_
          rotate_left
          · intro hCont
            refine two_ (i := 2) (j := 4) (Ni := some 61) (Nj := some 63) #[true, true, true, true, false, false, true, false] #[true, true, false, true, true, false, true, false] rfl rfl rfl rfl (by kernel_rfl) (by decide) (by decide) (fun K hK => ?_) (fun K hK => ?_)
            · skip
              have hLow := hHeld.2.2
              refine goes_ Try.func29 (by kernel_rfl) rfl #[.slice A lst.length c] (by rfl) rfl rfl (by simp only [List.map_toArray, List.map_cons, List.map_nil]; rfl) ?_
              with_reducible refine ((clone_calls A c lst _ hHeld.2.1 (by have := HN.out; have := HO.out; omega))).mono ?_
              rintro e w3 ⟨v61, rfl, ho, hb⟩
              refine ⟨_, rfl, ?_⟩
              refine hK.out _ _ ⟨(cellB HV7.out.hc (below_step hHeld.2.2 hb)), (Kd.C_below HC7.out (below_step hHeld.2.2 hb)), (below_step hHeld.2.2 hb)⟩ (fun hHeld => ?_)
              clear hK K
              refine norm_ (a' := ?_) ?_ ?_
              rotate_left
              · show Act.put _ (some 61) _ = _
                simp only [Act.put, List.setIfInBounds_toArray, List.set_cons_zero, List.set_cons_succ, i64_w, i32_w]
                rfl
              refine one_ (i := 4) (N := some 63) #[true, true, true, true, true, false, true, false] rfl rfl (by kernel_rfl) (by decide) (fun K hK => ?_)
              refine value_ (w1 := ?_) (v := ?_) (by rfl) rfl ?_ ?_
              rotate_left 2
              · go_simp
                constructor
                · rfl
                · rfl
              refine hK.out _ _ ⟨(cellB HV7.out.hc (below_alloc hHeld.2.2 _)), (Kd.C_below HC7.out (below_alloc hHeld.2.2 _)), (below_alloc hHeld.2.2 _)⟩ (fun hHeld => ?_)
              clear hK K
              refine norm_ (a' := ?_) ?_ ?_
              rotate_left
              · show Act.put _ (some 63) _ = _
                simp only [Act.put, List.setIfInBounds_toArray, List.set_cons_zero, List.set_cons_succ, i64_w, i32_w]
                rfl
              exact norm_ (by simp only [putAll, Act.put, List.setIfInBounds_toArray, List.set_cons_zero, List.set_cons_succ]) (hCont (v61, .slice (some ⟨w3.heap.size, 0, none⟩) 1 1) _ ⟨hHeld, Kd.R_alloc (Kd.R_lower ho (below_size hLow)) _, ⟨_, _, rfl, reads_new1 _ _ _ rfl _⟩⟩)
            · skip
              refine value_ (w1 := ?_) (v := ?_) (by rfl) rfl ?_ ?_
              rotate_left 2
              · go_simp
                constructor
                · rfl
                · rfl
              refine hK.out _ _ ⟨(cellB HV7.out.hc (below_alloc hHeld.2.2 _)), (Kd.C_below HC7.out (below_alloc hHeld.2.2 _)), (below_alloc hHeld.2.2 _)⟩ (fun hHeld => ?_)
              clear hK K
              refine norm_ (a' := ?_) ?_ ?_
              rotate_left
              · show Act.put _ (some 63) _ = _
                simp only [Act.put, List.setIfInBounds_toArray, List.set_cons_zero, List.set_cons_succ, i64_w, i32_w]
                rfl
              refine one_ (i := 2) (N := some 61) #[true, true, true, true, true, false, true, false] rfl rfl (by kernel_rfl) (by decide) (fun K hK => ?_)
              have hLow := hHeld.2.2
              refine goes_ Try.func29 (by kernel_rfl) rfl #[.slice A lst.length c] (by rfl) rfl rfl (by simp only [List.map_toArray, List.map_cons, List.map_nil]; rfl) ?_
              with_reducible refine ((clone_calls A c lst _ hHeld.2.1 (by have := HN.out; have := HO.out; omega))).mono ?_
              rintro e w3 ⟨v61, rfl, ho, hb⟩
              refine ⟨_, rfl, ?_⟩
              refine hK.out _ _ ⟨(cellB HV7.out.hc (below_step hHeld.2.2 hb)), (Kd.C_below HC7.out (below_step hHeld.2.2 hb)), (below_step hHeld.2.2 hb)⟩ (fun hHeld => ?_)
              clear hK K
              refine norm_ (a' := ?_) ?_ ?_
              rotate_left
              · show Act.put _ (some 61) _ = _
                simp only [Act.put, List.setIfInBounds_toArray, List.set_cons_zero, List.set_cons_succ, i64_w, i32_w]
                rfl
              exact norm_ (by simp only [putAll, Act.put, List.setIfInBounds_toArray, List.set_cons_zero, List.set_cons_succ]) (hCont (v61, .slice (some ⟨w7.heap.size, 0, none⟩) 1 1) _ ⟨hHeld, Kd.R_lower ho (below_size hLow), ⟨_, _, rfl, Kd.C_below (Kd.C_drew (reads_new1 _ _ _ (by simp) _)) hb⟩⟩)
          rintro ⟨v61, v63⟩ w' ⟨hHeld, hO, A2, cc, e63, hC⟩
          dsimp only at e63
          subst e63
          refine norm_ (a' := ?_) ?_ ?_
          rotate_left
          · simp only [putAll, Act.put, List.setIfInBounds_toArray, List.set_cons_zero, List.set_cons_succ]
            rfl
          refine one_ (i := 5) (N := some 64) #[true, true, true, true, true, true, true, false] rfl rfl (by kernel_rfl) (by decide) (fun K hK => ?_)
          refine Kd.R_append_rows_step (Kd.int .i64) (Rr := (Kd.int .i64).K w') (w0 := w7) w7.heap.size (by rfl) (.tmp 61) (.tmp 63) 24 2 (.int .i64 0) 8 rfl Try.underlying24 info_i64 rfl (by decide) (by omega) v61 lst [(k : Int)] A2 1 cc (fun _ => True) (fun _ => False) rfl rfl hO hC (fun _ _ h => h) (fun _ h => h.elim) (fun _ _ => trivial) hHeld.2.2 (below_size hHeld.2.2) (by have := HN.out; have := HO.out; omega) ?_
          intro v64 w4 ho4 hb4 hg4 hat4
          refine hK.out _ _ ⟨(cellB HV7.out.hc hb4), (Kd.C_below HC7.out hb4), hb4⟩ (fun hHeld => ?_)
          clear hK K
          refine norm_ (a' := ?_) ?_ ?_
          rotate_left
          · show Act.put _ (some 64) _ = _
            simp only [Act.put, List.setIfInBounds_toArray, List.set_cons_zero, List.set_cons_succ, i64_w, i32_w]
            rfl
          refine last_ (i := 7) (N := some 66) #[true, true, true, true, true, true, true, true] rfl rfl (by kernel_rfl) (by decide) (fun K hK => ?_)
          obtain ⟨A64, c64, rfl, hc64, hC64⟩ := Kd.R_reads ho4
          refine call_ 28 #[.slice A64 (lst ++ [(k : Int)]).length c64, .slice (some ⟨gn, 0, none⟩) L cn, .pointer (some ⟨gt, 0, none⟩), .pointer (some ⟨gl, 0, none⟩), .pointer (some ⟨gb, 0, none⟩), .pointer (some ⟨gq, 0, none⟩), .pointer (some ⟨gc, 0, none⟩)] (by rfl) rfl ?_ ?_
          · have he := enters_of Try.func28 (by kernel_rfl) rfl
            unfold execOp
            simp [resolve, Deferred.ofValue, invoke, Act.eval, lbS, he]
          obtain ⟨hLL⟩ : Aside0 ((nx.set k (wrap64 (xn + xt))).length = L) := HLL
          subst hLL
          refine (ih (lst ++ [(k : Int)]) A64 c64 (nx.set k (wrap64 (xn + xt))) (some ⟨gn, 0, none⟩) cn σi w4 ⟨by have := HO.out; simp; omega⟩ ⟨by have := HNL2.out; rw [List.length_append]; exact this⟩ ⟨hc64⟩ ⟨by have := (Kd.R_reads' HN7.out).2.1; exact this⟩ ⟨HV7.out.below hb4 (below_size HV7.out.bel)⟩ ⟨R_fresh ho4 (below_size HV7.out.bel) HV7.out.fresh⟩ ⟨R_fresh (Kd.R_below HN7.out hb4) (below_size HV1.out.bel) HV1.out.fresh⟩).mono ?_
          rintro e w8 ⟨rfl, HI8, HK8⟩
          refine ⟨_, rfl, ?_⟩
          refine hK.out _ _ ?_
          clear hK K
          refine norm_ (a' := ?_) ?_ ?_
          rotate_left
          · show Act.put _ (some 66) _ = _
            simp only [Act.put, List.setIfInBounds_toArray, List.set_cons_zero, List.set_cons_succ, i64_w, i32_w]
            rfl
          refine done_ (by kernel_rfl) ?_
          go_wp2_with fail
          go_roundg (M - (k + 1))
          case measure => omega
          case rel => exact ⟨k + 1, by omega, by omega, by go_num, ⟨by rw [HS.out, HNXE.out]; exact HI8⟩, ⟨kept_trans HK.out (kept_trans (kept_below HB7.out) (kept_trans (kept_below hb4) HK8))⟩⟩
        · have hb0 : ((k : Int) == (sums.length : Int)) = false := by rw [beq_eq_false_iff_ne]; omega
          have HNX0 := Aside0.mk (show grownS sums k = sums from if_neg heq)
          have HKL := Aside0.mk (show k < sums.length by omega)
          clear heq
          obtain ⟨gn, c41, e40, gb9, _⟩ := Kd.R_form HO40.out (by have := HKL.out; omega)
          injection e40 with e1 e2 e3
          subst e1 e3
          obtain ⟨w5, hw5⟩ : ∃ w5, w5 = w4 := ⟨_, rfl⟩
          subst hw5
          have HNX := HO40
          have HB5 := HB4
          have GN := Aside0.mk gb9
          clear HO40 HB4 gb9
          go_wp2_with fail
          clear hb0
          obtain ⟨L, hnl0⟩ : ∃ L, sums.length = L := ⟨_, rfl⟩
          obtain ⟨nx, hnx⟩ : ∃ nx, sums = nx := ⟨_, rfl⟩
          have hnl : nx.length = L := by rw [← hnx, ← hnl0]
          have hL9 : k < L ∧ L ≤ lst.length + 1 := by have := HNL.out; have := HKL.out; omega
          rw [show Value.slice (some ⟨gn, 0, none⟩) sums.length cn = Value.slice (some ⟨gn, 0, none⟩) L cn by rw [hnl0]]
          rw [hnl0] at HNX
          replace HNX0 := Aside0.mk (HNX0.out.trans hnx)
          replace HNX : Aside0 (Kd.R (Kd.int .i64) 2 w5 wr.heap.size (fun _ => True) (.slice (some ⟨gn, 0, none⟩) L cn) nx) := ⟨by rw [← hnx]; exact HNX.out⟩
          obtain ⟨xn, hxn⟩ : ∃ xn, rd nx (k : Int) = xn := ⟨_, rfl⟩
          obtain ⟨hcn, hfn⟩ := Kd.R_celln 0 HNX.out (k : Int) (by omega) (by omega)
          change _ = some (Value.int .i64 (rd nx (k : Int))) at hcn
          rw [hxn, Int.toNat_natCast] at hcn
          rw [Int.toNat_natCast] at hfn
          have HV5 := Aside0.mk (HV1.out.below HB5.out (below_size HV1.out.bel))
          have hct0 := (Kd.at_int (Kd.C_below HR0.out HV5.out.bel) (lst.length : Int) (by omega) (by have := HO.out; omega))
          obtain ⟨ad', ea, hct⟩ := hct0
          injection ea with ea
          subst ea
          rw [hxt, Int.toNat_natCast] at hct
          have hll : (lst.length : Int) < (l0.length : Int) := by have := HO.out; omega
          have hkn : (k : Int) < (L : Int) := by omega
          have HLL := Aside0.mk (show (nx.set k (wrap64 (xn + xt))).length = L by rw [List.length_set]; exact hnl)
          have HNXE := Aside0.mk (show nextS l0 sums lst.length k = nx.set k (wrap64 (xn + xt)) by unfold nextS; rw [HNX0.out, hxn, hxt])
          replace HS : Aside0 ((List.range (k + 1)).foldl (stepS l0 cut r lst sums) σ = chooseS l0 cut r (lst ++ [(k : Int)]) (nextS l0 sums lst.length k) σi) := ⟨HS.out⟩
          have HNL2 := Aside0.mk (show (nx.set k (wrap64 (xn + xt))).length ≤ lst.length + 1 by rw [List.length_set]; omega)
          clear hxn hxt hnx HNX0 hnl hnl0
          refine start_ (n := 12) (S := fun w' => w'.cell? ⟨gn, k, none⟩ = some (.int .i64 xn) ∧ w'.frozen? ⟨gn, k, none⟩ = false ∧ w'.cell? ⟨gt, 0, none⟩ = some (.slice (some ad) l0.length c0) ∧ w'.cell? (ad.add lst.length) = some (.int .i64 xt) ∧ Below w5.heap.size w5 w' ∧ Kd.R (Kd.int .i64) 2 w' wr.heap.size (fun _ => True) (.slice (some ⟨gn, 0, none⟩) L cn) nx) (ds := [11]) #[false, false, false, false, false, false, false, false, false, false, false, false] (by kernel_rfl) rfl rfl ⟨hcn, hfn, (cellB (HV5.out.ht) (below_drew (Below.refl _ _))), hct, (below_drew (Below.refl _ _)), (Kd.R_drew HNX.out)⟩ (fun hHeld => ?_)
          refine pure_ (i := 0) (N := some 48) (v := ?_) (a' := ?_) #[true, false, false, false, false, false, false, false, false, false, false, false] rfl rfl (by kernel_rfl) (fun _ _ _ h => h) (Or.inl ⟨by rfl, ?_⟩) ?_ ?_
          rotate_left
          · intro w'
            go_simp
            with_reducible rfl
          rotate_left
          · simp only [Act.put, List.setIfInBounds_toArray, List.set_cons_zero, List.set_cons_succ, i64_w, i32_w]
            rfl
          refine pure_ (i := 1) (N := some 49) (v := ?_) (a' := ?_) #[true, true, false, false, false, false, false, false, false, false, false, false] rfl rfl (by kernel_rfl) (fun _ _ _ h => h) (Or.inl ⟨by rfl, ?_⟩) ?_ ?_
          rotate_left
          · intro w'
            go_simp
            with_reducible rfl
          rotate_left
          · simp only [Act.put, List.setIfInBounds_toArray, List.set_cons_zero, List.set_cons_succ, i64_w, i32_w]
            rfl
          refine pure_ (i := 2) (N := some 50) (v := ?_) (a' := ?_) #[true, true, true, false, false, false, false, false, false, false, false, false] rfl rfl (by kernel_rfl) (fun _ _ _ h => h) (Or.inl ⟨by rfl, ?_⟩) ?_ ?_
          rotate_left
          · intro w'
            go_simp
            with_reducible rfl
          rotate_left
          · simp only [Act.put, List.setIfInBounds_toArray, List.set_cons_zero, List.set_cons_succ, i64_w, i32_w]
            rfl
          refine pure_ (i := 5) (N := some 53) (v := ?_) (a' := ?_) #[true, true, true, false, false, true, false, false, false, false, false, false] rfl rfl (by kernel_rfl) (fun _ _ _ h => h) (Or.inl ⟨by rfl, ?_⟩) ?_ ?_
          rotate_left
          · intro w'
            go_simp
            with_reducible rfl
          rotate_left
          · simp only [Act.put, List.setIfInBounds_toArray, List.set_cons_zero, List.set_cons_succ, i64_w, i32_w]
            rfl
          refine pure_ (i := 6) (N := some 54) (v := ?_) (a' := ?_) #[true, true, true, false, false, true, true, false, false, false, false, false] rfl rfl (by kernel_rfl) (fun _ _ _ h => h) (Or.inl ⟨by rfl, ?_⟩) ?_ ?_
          rotate_left
          · intro w'
            go_simp
            with_reducible rfl
          rotate_left
          · simp only [Act.put, List.setIfInBounds_toArray, List.set_cons_zero, List.set_cons_succ, i64_w, i32_w]
            rfl
          refine take_ (i := 3) (N := some 51) (v := ?_) (a' := ?_) #[true, true, true, true, false, true, true, false, false, false, false, false] rfl rfl (by kernel_rfl) (fun _ _ _ h => h) (Or.inl ⟨by rfl, ?_⟩) hHeld ?_ ?_
          rotate_left
          · rintro w' ⟨s0, s1, s2, s3, s4, s5⟩
            go_simp
            with_reducible rfl
          rotate_left
          · simp only [Act.put, List.setIfInBounds_toArray, List.set_cons_zero, List.set_cons_succ, i64_w, i32_w]
            rfl
          refine take_ (i := 4) (N := some 52) (v := ?_) (a' := ?_) #[true, true, true, true, true, true, true, false, false, false, false, false] rfl rfl (by kernel_rfl) (fun _ _ _ h => h) (Or.inl ⟨by rfl, ?_⟩) hHeld ?_ ?_
          rotate_left
          · rintro w' ⟨s0, s1, s2, s3, s4, s5⟩
            go_simp
            with_reducible rfl
          rotate_left
          · simp only [Act.put, List.setIfInBounds_toArray, List.set_cons_zero, List.set_cons_succ, i64_w, i32_w]
            rfl
          refine pure_ (i := 7) (N := some 55) (v := ?_) (a' := ?_) #[true, true, true, true, true, true, true, true, false, false, false, false] rfl rfl (by kernel_rfl) (fun _ _ _ h => h) (Or.inl ⟨by rfl, ?_⟩) ?_ ?_
          rotate_left
          · intro w'
            go_simp
            with_reducible rfl
          rotate_left
          · simp only [Act.put, List.setIfInBounds_toArray, List.set_cons_zero, List.set_cons_succ, i64_w, i32_w]
            rfl
          refine take_ (i := 8) (N := some 56) (v := ?_) (a' := ?_) #[true, true, true, true, true, true, true, true, true, false, false, false] rfl rfl (by kernel_rfl) (fun _ _ _ h => h) (Or.inl ⟨by rfl, ?_⟩) hHeld ?_ ?_
          rotate_left
          · rintro w' ⟨s0, s1, s2, s3, s4, s5⟩
            go_simp
            with_reducible rfl
          rotate_left
          · simp only [Act.put, List.setIfInBounds_toArray, List.set_cons_zero, List.set_cons_succ, i64_w, i32_w]
            rfl
          refine pure_ (i := 9) (N := some 57) (v := ?_) (a' := ?_) #[true, true, true, true, true, true, true, true, true, true, false, false] rfl rfl (by kernel_rfl) (fun _ _ _ h => h) (Or.inl ⟨by rfl, ?_⟩) ?_ ?_
          rotate_left
          · intro w'
            go_simp
            with_reducible rfl
          rotate_left
          · simp only [Act.put, List.setIfInBounds_toArray, List.set_cons_zero, List.set_cons_succ, i64_w, i32_w]
            rfl
          refine pure_ (i := 10) (N := some 58) (v := ?_) (a' := ?_) #[true, true, true, true, true, true, true, true, true, true, true, false] rfl rfl (by kernel_rfl) (fun _ _ _ h => h) (Or.inl ⟨by rfl, ?_⟩) ?_ ?_
          rotate_left
          · intro w'
            go_simp
            with_reducible rfl
          rotate_left
          · simp only [Act.put, List.setIfInBounds_toArray, List.set_cons_zero, List.set_cons_succ, i64_w, i32_w]
            rfl
          refine last_ (i := 11) (N := none) #[true, true, true, true, true, true, true, true, true, true, true, true] rfl rfl (by kernel_rfl) (by decide) (fun K hK => ?_)
          have g0_ := hHeld.1
          have g1_ := hHeld.2.1
          refine skipN_ (w1 := ?_) (by rfl) rfl ?_ ?_
          rotate_left
          · go_simp
            rfl
          intro w7 hw7
          have HN7 := Aside0.mk (show Kd.R (Kd.int .i64) 2 w7 wr.heap.size (fun _ => True) (.slice (some ⟨gn, 0, none⟩) L cn) (nx.set k (wrap64 (xn + xt))) from by rw [hw7]; exact (Kd.R_putg hHeld.2.2.2.2.2 (k : Int) (wrap64 (xn + xt))).1)
          have HB7 := Aside0.mk (show Below wr.heap.size wr w7 from by rw [hw7]; exact below_set (HB5.out.trans (hHeld.2.2.2.2.1.mono (below_size HB5.out))) GN.out)
          refine hK.out _ _ ?_
          clear hK K
          refine done_ (by kernel_rfl) ?_
          have HV7 := Aside0.mk (HV1.out.below HB7.out (below_size HV1.out.bel))
          have HC7 := Aside0.mk (Kd.C_below HCo.out HB7.out)
          clear hw7 hcn hfn hct HNX HV5 HB5
          go_wp2_with fail
          refine start_ (n := 8) (S := fun w' => w'.cell? ⟨gc, 0, none⟩ = some (.func (.func 28) #[] (lbS gt gl gb gq gc)) ∧ Kd.C (Kd.int .i64) w' A lst.length lst ∧ Below w7.heap.size w7 w') (ds := [7]) #[false, false, false, false, false, false, false, false] (by kernel_rfl) rfl rfl ⟨(cellB HV7.out.hc (below_drew (Below.refl _ _))), (Kd.C_below HC7.out (below_drew (Below.refl _ _))), (below_drew (Below.refl _ _))⟩ (fun hHeld => ?_)
          refine pure_ (i := 1) (N := some 60) (v := ?_) (a' := ?_) #[false, true, false, false, false, false, false, false] rfl rfl (by kernel_rfl) (fun _ _ _ h => h) (Or.inl ⟨by rfl, ?_⟩) ?_ ?_
          rotate_left
          · intro w'
            go_simp
            with_reducible rfl
          rotate_left
          · simp only [Act.put, List.setIfInBounds_toArray, List.set_cons_zero, List.set_cons_succ, i64_w, i32_w]
            rfl
          refine pure_ (i := 3) (N := some 62) (v := ?_) (a' := ?_) #[false, true, false, true, false, false, false, false] rfl rfl (by kernel_rfl) (fun _ _ _ h => h) (Or.inl ⟨by rfl, ?_⟩) ?_ ?_
          rotate_left
          · intro w'
            go_simp
            with_reducible rfl
          rotate_left
          · simp only [Act.put, List.setIfInBounds_toArray, List.set_cons_zero, List.set_cons_succ, i64_w, i32_w]
            rfl
          refine pure_ (i := 6) (N := some 65) (v := ?_) (a' := ?_) #[false, true, false, true, false, false, true, false] rfl rfl (by kernel_rfl) (fun _ _ _ h => h) (Or.inl ⟨by rfl, ?_⟩) ?_ ?_
          rotate_left
          · intro w'
            go_simp
            with_reducible rfl
          rotate_left
          · simp only [Act.put, List.setIfInBounds_toArray, List.set_cons_zero, List.set_cons_succ, i64_w, i32_w]
            rfl
          refine take_ (i := 0) (N := some 59) (v := ?_) (a' := ?_) #[true, true, false, true, false, false, true, false] rfl rfl (by kernel_rfl) (fun _ _ _ h => h) (Or.inl ⟨by rfl, ?_⟩) hHeld ?_ ?_
          rotate_left
          · rintro w' ⟨s0, s1, s2⟩
            go_simp
            with_reducible rfl
          rotate_left
          · simp only [Act.put, List.setIfInBounds_toArray, List.set_cons_zero, List.set_cons_succ, i64_w, i32_w]
            rfl
          refine join_ (σ := Value × Value) 2 #[true, true, true, true, true, false, true, false] (fun s => [(61, s.1), (63, s.2)]) (fun s w' => (w'.cell? ⟨gc, 0, none⟩ = some (.func (.func 28) #[] (lbS gt gl gb gq gc)) ∧ Kd.C (Kd.int .i64) w' A lst.length lst ∧ Below w7.heap.size w7 w') ∧ Kd.R (Kd.int .i64) 2 w' w7.heap.size (fun _ => True) s.1 lst ∧ ∃ A cc, s.2 = .slice A 1 cc ∧ Kd.C (Kd.int .i64) w' A 1 [(k : Int)]) ?_ ?_
          rotate_left
          · intro hCont
            refine two_ (i := 2) (j := 4) (Ni := some 61) (Nj := some 63) #[true, true, true, true, false, false, true, false] #[true, true, false, true, true, false, true, false] rfl rfl rfl rfl (by kernel_rfl) (by decide) (by decide) (fun K hK => ?_) (fun K hK => ?_)
            · skip
              have hLow := hHeld.2.2
              refine goes_ Try.func29 (by kernel_rfl) rfl #[.slice A lst.length c] (by rfl) rfl rfl (by simp only [List.map_toArray, List.map_cons, List.map_nil]; rfl) ?_
              with_reducible refine ((clone_calls A c lst _ hHeld.2.1 (by have := HN.out; have := HO.out; omega))).mono ?_
              rintro e w3 ⟨v61, rfl, ho, hb⟩
              refine ⟨_, rfl, ?_⟩
              refine hK.out _ _ ⟨(cellB HV7.out.hc (below_step hHeld.2.2 hb)), (Kd.C_below HC7.out (below_step hHeld.2.2 hb)), (below_step hHeld.2.2 hb)⟩ (fun hHeld => ?_)
              clear hK K
              refine norm_ (a' := ?_) ?_ ?_
              rotate_left
              · show Act.put _ (some 61) _ = _
                simp only [Act.put, List.setIfInBounds_toArray, List.set_cons_zero, List.set_cons_succ, i64_w, i32_w]
                rfl
              refine one_ (i := 4) (N := some 63) #[true, true, true, true, true, false, true, false] rfl rfl (by kernel_rfl) (by decide) (fun K hK => ?_)
              refine value_ (w1 := ?_) (v := ?_) (by rfl) rfl ?_ ?_
              rotate_left 2
              · go_simp
                constructor
                · rfl
                · rfl
              refine hK.out _ _ ⟨(cellB HV7.out.hc (below_alloc hHeld.2.2 _)), (Kd.C_below HC7.out (below_alloc hHeld.2.2 _)), (below_alloc hHeld.2.2 _)⟩ (fun hHeld => ?_)
              clear hK K
              refine norm_ (a' := ?_) ?_ ?_
              rotate_left
              · show Act.put _ (some 63) _ = _
                simp only [Act.put, List.setIfInBounds_toArray, List.set_cons_zero, List.set_cons_succ, i64_w, i32_w]
                rfl
              exact norm_ (by simp only [putAll, Act.put, List.setIfInBounds_toArray, List.set_cons_zero, List.set_cons_succ]) (hCont (v61, .slice (some ⟨w3.heap.size, 0, none⟩) 1 1) _ ⟨hHeld, Kd.R_alloc (Kd.R_lower ho (below_size hLow)) _, ⟨_, _, rfl, reads_new1 _ _ _ rfl _⟩⟩)
            · skip
              refine value_ (w1 := ?_) (v := ?_) (by rfl) rfl ?_ ?_
              rotate_left 2
              · go_simp
                constructor
                · rfl
                · rfl
              refine hK.out _ _ ⟨(cellB HV7.out.hc (below_alloc hHeld.2.2 _)), (Kd.C_below HC7.out (below_alloc hHeld.2.2 _)), (below_alloc hHeld.2.2 _)⟩ (fun hHeld => ?_)
              clear hK K
              refine norm_ (a' := ?_) ?_ ?_
              rotate_left
              · show Act.put _ (some 63) _ = _
                simp only [Act.put, List.setIfInBounds_toArray, List.set_cons_zero, List.set_cons_succ, i64_w, i32_w]
                rfl
              refine one_ (i := 2) (N := some 61) #[true, true, true, true, true, false, true, false] rfl rfl (by kernel_rfl) (by decide) (fun K hK => ?_)
              have hLow := hHeld.2.2
              refine goes_ Try.func29 (by kernel_rfl) rfl #[.slice A lst.length c] (by rfl) rfl rfl (by simp only [List.map_toArray, List.map_cons, List.map_nil]; rfl) ?_
              with_reducible refine ((clone_calls A c lst _ hHeld.2.1 (by have := HN.out; have := HO.out; omega))).mono ?_
              rintro e w3 ⟨v61, rfl, ho, hb⟩
              refine ⟨_, rfl, ?_⟩
              refine hK.out _ _ ⟨(cellB HV7.out.hc (below_step hHeld.2.2 hb)), (Kd.C_below HC7.out (below_step hHeld.2.2 hb)), (below_step hHeld.2.2 hb)⟩ (fun hHeld => ?_)
              clear hK K
              refine norm_ (a' := ?_) ?_ ?_
              rotate_left
              · show Act.put _ (some 61) _ = _
                simp only [Act.put, List.setIfInBounds_toArray, List.set_cons_zero, List.set_cons_succ, i64_w, i32_w]
                rfl
              exact norm_ (by simp only [putAll, Act.put, List.setIfInBounds_toArray, List.set_cons_zero, List.set_cons_succ]) (hCont (v61, .slice (some ⟨w7.heap.size, 0, none⟩) 1 1) _ ⟨hHeld, Kd.R_lower ho (below_size hLow), ⟨_, _, rfl, Kd.C_below (Kd.C_drew (reads_new1 _ _ _ (by simp) _)) hb⟩⟩)
          rintro ⟨v61, v63⟩ w' ⟨hHeld, hO, A2, cc, e63, hC⟩
          dsimp only at e63
          subst e63
          refine norm_ (a' := ?_) ?_ ?_
          rotate_left
          · simp only [putAll, Act.put, List.setIfInBounds_toArray, List.set_cons_zero, List.set_cons_succ]
            rfl
          refine one_ (i := 5) (N := some 64) #[true, true, true, true, true, true, true, false] rfl rfl (by kernel_rfl) (by decide) (fun K hK => ?_)
          refine Kd.R_append_rows_step (Kd.int .i64) (Rr := (Kd.int .i64).K w') (w0 := w7) w7.heap.size (by rfl) (.tmp 61) (.tmp 63) 24 2 (.int .i64 0) 8 rfl Try.underlying24 info_i64 rfl (by decide) (by omega) v61 lst [(k : Int)] A2 1 cc (fun _ => True) (fun _ => False) rfl rfl hO hC (fun _ _ h => h) (fun _ h => h.elim) (fun _ _ => trivial) hHeld.2.2 (below_size hHeld.2.2) (by have := HN.out; have := HO.out; omega) ?_
          intro v64 w4 ho4 hb4 hg4 hat4
          refine hK.out _ _ ⟨(cellB HV7.out.hc hb4), (Kd.C_below HC7.out hb4), hb4⟩ (fun hHeld => ?_)
          clear hK K
          refine norm_ (a' := ?_) ?_ ?_
          rotate_left
          · show Act.put _ (some 64) _ = _
            simp only [Act.put, List.setIfInBounds_toArray, List.set_cons_zero, List.set_cons_succ, i64_w, i32_w]
            rfl
          refine last_ (i := 7) (N := some 66) #[true, true, true, true, true, true, true, true] rfl rfl (by kernel_rfl) (by decide) (fun K hK => ?_)
          obtain ⟨A64, c64, rfl, hc64, hC64⟩ := Kd.R_reads ho4
          refine call_ 28 #[.slice A64 (lst ++ [(k : Int)]).length c64, .slice (some ⟨gn, 0, none⟩) L cn, .pointer (some ⟨gt, 0, none⟩), .pointer (some ⟨gl, 0, none⟩), .pointer (some ⟨gb, 0, none⟩), .pointer (some ⟨gq, 0, none⟩), .pointer (some ⟨gc, 0, none⟩)] (by rfl) rfl ?_ ?_
          · have he := enters_of Try.func28 (by kernel_rfl) rfl
            unfold execOp
            simp [resolve, Deferred.ofValue, invoke, Act.eval, lbS, he]
          obtain ⟨hLL⟩ : Aside0 ((nx.set k (wrap64 (xn + xt))).length = L) := HLL
          subst hLL
          refine (ih (lst ++ [(k : Int)]) A64 c64 (nx.set k (wrap64 (xn + xt))) (some ⟨gn, 0, none⟩) cn σi w4 ⟨by have := HO.out; simp; omega⟩ ⟨by have := HNL2.out; rw [List.length_append]; exact this⟩ ⟨hc64⟩ ⟨by have := (Kd.R_reads' HN7.out).2.1; exact this⟩ ⟨HV7.out.below hb4 (below_size HV7.out.bel)⟩ ⟨R_fresh ho4 (below_size HV7.out.bel) HV7.out.fresh⟩ ⟨R_fresh (Kd.R_below HN7.out hb4) (below_size HV1.out.bel) HV1.out.fresh⟩).mono ?_
          rintro e w8 ⟨rfl, HI8, HK8⟩
          refine ⟨_, rfl, ?_⟩
          refine hK.out _ _ ?_
          clear hK K
          refine norm_ (a' := ?_) ?_ ?_
          rotate_left
          · show Act.put _ (some 66) _ = _
            simp only [Act.put, List.setIfInBounds_toArray, List.set_cons_zero, List.set_cons_succ, i64_w, i32_w]
            rfl
          refine done_ (by kernel_rfl) ?_
          go_wp2_with fail
          go_roundg (M - (k + 1))
          case measure => omega
          case rel => exact ⟨k + 1, by omega, by omega, by go_num, ⟨by rw [HS.out, HNXE.out]; exact HI8⟩, ⟨kept_trans HK.out (kept_trans (kept_below HB7.out) (kept_trans (kept_below hb4) HK8))⟩⟩
      · have hltz : ¬ (k : Int) < (M : Int) := by omega
        obtain rfl : k = M := by omega
        go_wp2
        go_end0
        refine ⟨rfl, ?_, HK.out⟩
        rw [chooseS_succ, HM.out]
        exact HV1.out
def shareC (t : List Int) (n : Int) : List Int × Int × Int := if timesC (inB n 1 6) t 8 = 0 then ((chooseS t n.toNat t.length [] [] ([], -1)).1, (chooseS t n.toNat t.length [] [] ([], -1)).2, 0) else ([], 0, timesC (inB n 1 6) t 8)
def impl_ShareAny.f (l0 : List Int) (a1 : Int) : Option (List Int × Int × Int) := some (shareC l0 a1)
set_option maxHeartbeats 2000000 in
theorem impl_ShareAny.calls (A0 : Option Addr) (c0 : Nat) (l0 : List Int) (a1 : Int) (r1 : List Int) (r2 : Int) (r3 : Int) (w : World) (hr0 : Kd.C (Kd.int .i64) w A0 l0.length l0) (hc0 : l0.length ≤ c0) (h : impl_ShareAny.f l0 a1 = some (r1, r2, r3)) :
    Calls Try.prog 9 #[.slice A0 l0.length c0, .int .i64 a1] w fun e w' => ∃ v0_ : Value, e = .returned (.tuple #[v0_, .int .i64 r2, .int .i64 r3]) ∧ Kd.R (Kd.int .i64) 2 w' w.heap.size (fun _ => True) v0_ r1 ∧ Below w.heap.size w w' := by
  have HR0 := Aside0.mk hr0
  have HC0 := Aside0.mk hc0
  clear hr0 hc0
  have h := Option.some.inj h
  have HD := Aside0.mk (impl_times_eq l0 a1 6 8)
  have HB := Aside0.mk (below_alloc (below_alloc (Below.refl w.heap.size w) (.cells #[.slice A0 l0.length c0] 24 (0, 0))) (.cells #[.int .i64 a1] 2 (0, 0)))
  have B0 := Aside0.mk (blk_alloc (blk_new w (.cells #[.slice A0 l0.length c0] 24 (0, 0))) (.cells #[.int .i64 a1] 2 (0, 0)))
  have B1 := Aside0.mk (blk_newAt (W := w.alloc (.cells #[.slice A0 l0.length c0] 24 (0, 0))) (n := w.heap.size + 1) (by simp) (.cells #[.int .i64 a1] 2 (0, 0)))
  unfold shareC at h
  by_cases hz : timesC (inB a1 1 6) l0 8 = 0
  · rw [if_pos hz] at h
    obtain ⟨hin, hb7, hl7⟩ := timesC_zero hz
    obtain ⟨hin1, hin2⟩ := inB_iff.1 hin
    obtain ⟨cut, rfl⟩ := Int.eq_ofNat_of_zero_le (show 0 ≤ a1 by omega)
    have HCut := Aside0.mk (show cut ≤ 6 by omega)
    rw [Int.toNat_natCast] at h
    rw [hz] at HD
    have HL8 := Aside0.mk (show l0.length ≤ 8 by omega)
    clear hz hb7 hl7 hin hin1 hin2
    injection h with h1 h
    injection h with h2 h3
    subst h3
    have H1 := Aside0.mk h1
    have H2 := Aside0.mk h2
    clear h1 h2
    go_enter Try.func9, Try.ntmps9
    go_wp2_with fail
    refine (impl_timesCode.calls A0 c0 l0 (cut : Int) 6 8 0 _ (Kd.C_below HR0.out HB.out) HC0.out HD.out).mono ?_
    rintro e w1 ⟨rfl, hb⟩
    replace B0 := Aside0.mk (blk_below B0.out hb)
    replace B1 := Aside0.mk (blk_below B1.out hb)
    replace HB := Aside0.mk (below_step HB.out hb)
    clear hb
    go_wp2_with (first | ((with_reducible refine gate_dst (N := 17) rfl ?_); refine Kd.R_lit (Kd.int .i64) _ 2 ?hg (N := 17) ?hd (xs := ([] : List Int)) (inner := []) (ok := fun _ => True) (okp := fun _ => True) ?hr ?hp (fun _ hk => hk) trivial (Below.refl _ _) (Nat.le_refl _) (by simp) ?_; (case hd => rfl); (case hg => rfl); (case hr => first | (go_simp; done) | (go_simp; rfl)); (case hp => exact (Reps.none _ _)); intro v17 w3 ho4 hb hg_ hnew_; clear hg_ hnew_; obtain ⟨Av, cv, rfl⟩ := Kd.R_slice ho4; have HO := Aside0.mk (Kd.R_lower ho4 (below_size HB.out)); have n1_ := Aside0.mk (below_step HB.out hb); have M0 := Aside0.mk (blk_below B0.out hb); have M1 := Aside0.mk (blk_below B1.out hb); clear HB B0 B1; have HB := n1_; clear n1_; clear hb ho4))
    have g0 := blk_lt' M0.out
    have g1 := blk_lt' M1.out
    have gB := HB.out.size
    have DD := Aside0.mk (show DistB w.heap.size w.heap.size (w.heap.size + 1) (w3.heap.size + 1) w3.heap.size (w3.heap.size + 1 + 1) from ⟨by omega, by omega, by omega, by omega, by omega, by omega, by omega, by omega, by omega⟩)
    have RB := Aside0.mk (show Kd.R (Kd.int .i64) 2 w3 w.heap.size (okF (w3.heap.size + 1) w3.heap.size) (.slice Av 0 cv) [] from Kd.R_mono (Kd.R_bound HO.out) (fun k hk => ⟨by have := hk.2.2.1; omega, by have := hk.2.2.1; omega⟩))
    clear g0 g1 gB h
    refine (share_calls w w.heap.size (w.heap.size + 1) (w3.heap.size + 1) w3.heap.size (w3.heap.size + 1 + 1) A0 c0 l0 cut HR0 HC0 HL8 HCut DD l0.length [] none 0 [] none 0 ([], -1) _ ⟨by simp⟩ ⟨by simp⟩ ⟨by simp⟩ ⟨by simp⟩
      ⟨⟨blk_alloc (blk_alloc (blk_alloc M0.out _) _) _, blk_alloc (blk_alloc (blk_alloc M1.out _) _) _, blk_alloc (blk_newAt (by simp) _) _, ⟨_, blk_alloc (blk_alloc (blk_newAt rfl _) _) _, Kd.R_alloc (Kd.R_alloc (Kd.R_alloc RB.out _) _) _⟩, blk_newAt (by simp) _, below_alloc (below_alloc (below_alloc HB.out _) _) _⟩⟩ ⟨Kd.R_nil _ _ _ _ _⟩ ⟨Kd.R_nil _ _ _ _ _⟩).mono ?_
    rintro e w5 ⟨rfl, HI5, HK5⟩
    generalize chooseS l0 cut l0.length [] [] ([], -1) = σ at HI5 H1 H2
    obtain ⟨s1, s2⟩ := σ
    have e1 := H1.out
    have e2 := H2.out
    dsimp only at e1 e2
    subst e1 e2
    have hcl := cell_of HI5.hl
    obtain ⟨vb, hb_, hRb⟩ := HI5.hb
    have hcb := cell_of hb_
    obtain ⟨Ab, cb, rfl⟩ := Kd.R_slice hRb
    have HRb := Aside0.mk (Kd.R_mono hRb (fun k _ => trivial))
    have HB5 := Aside0.mk HI5.bel
    clear HI5 HK5 hb_ hRb H1 H2
    go_wp2_with fail
    go_quiet (fail)
    go_wp2_with fail
    go_ret3
    exact ⟨_, rfl, (by (with_reducible repeat (first | apply Kd.R_alloc | apply Kd.R_drewN | apply Kd.R_drew)); exact HRb.out), (by repeat (first | (with_reducible first | exact HB5.out | apply below_alloc | apply pw_below_drewN | apply below_drew1) | exact HB5.out))⟩
  · rw [if_neg hz] at h
    have hne2 : (timesC (inB a1 1 6) l0 8 != 0) = true := by simpa using hz
    generalize timesC (inB a1 1 6) l0 8 = c at *
    have hne : (c == 0) = false := by simpa using hz
    injection h with h1 h
    injection h with h2 h3
    subst h1 h2 h3
    go_enter Try.func9, Try.ntmps9
    go_wp2_with fail
    refine (impl_timesCode.calls A0 c0 l0 a1 6 8 c _ (Kd.C_below HR0.out HB.out) HC0.out HD.out).mono ?_
    rintro e w1 ⟨rfl, hb⟩
    have HB' := Aside0.mk (below_step HB.out hb)
    clear hb
    go_wp2_with fail
    go_ret3
    exact ⟨_, rfl, Kd.R_nil _ _ _ _ _, HB'.out⟩
end Go.Proofs.Ytcibhhkpnakkgaa.Ext
namespace Go.Proofs.Ytcibhhkpnakkgaa.Q
open Go.Proofs.Ytcibhhkpnakkgaa.Ext
open Go.RowKit Go.Proofs.YtcibhhkpnakkgaaW.PrintWords Go.Proofs.YtcibhhkpnakkgaaW.PrintLast Go.Proofs.YtcibhhkpnakkgaaW.PrintMore
attribute [local go_sem] max2_int min2_int max_two min_two max_three min_three max_four min_four
set_option linter.unusedVariables false
set_option linter.unusedSimpArgs false
def spec_l00Max.f (a0 : Int) (a1 : Int) : Option (Int) := if a0 > a1 then (some a0) else (some a1)
set_option maxHeartbeats 8000000 in
set_option maxRecDepth 100000 in
theorem spec_l00Max.calls (a0 a1 r : Int) (w : World) (h : spec_l00Max.f a0 a1 = some r) :
    Calls Try.prog 56 #[.int .i64 a0, .int .i64 a1] w fun e w' => e = .returned (.int .i64 r) ∧ Drawn0 w w' := by
  have H : (if a0 > a1 then (some a0) else (some a1)) = some r := h
  clear h
  by_cases c3 : a0 > a1
  · rw [if_pos c3] at H
    have c3b0 : decide (a1 < a0) = true := decide_eq_true c3
    clear c3
    obtain rfl := Option.some.inj H
    go_enter Try.func56, Try.ntmps56
    go_wp2
    go_ret
    exact ⟨by first | rfl | (simp; done) | (simp [*]; done), by repeat (first | exact Drawn0.refl _ | apply Drawn0.step)⟩
  · rw [if_neg c3] at H
    have c3b0 : decide (a1 < a0) = false := decide_eq_false c3
    clear c3
    obtain rfl := Option.some.inj H
    go_enter Try.func56, Try.ntmps56
    go_wp2
    go_ret
    exact ⟨by first | rfl | (simp; done) | (simp [*]; done), by repeat (first | exact Drawn0.refl _ | apply Drawn0.step)⟩
end Go.Proofs.Ytcibhhkpnakkgaa.Q
namespace Go.Proofs.Ytcibhhkpnakkgaa.Ext
open Go.RowKit Go.Proofs.YtcibhhkpnakkgaaW.PrintWords Go.Proofs.YtcibhhkpnakkgaaW.PrintLast Go.Proofs.YtcibhhkpnakkgaaW.PrintMore Go.Proofs.Ytcibhhkpnakkgaa.Q
set_option linter.unusedVariables false
set_option linter.unusedSimpArgs false
def mxG (a b : Int) : Int := if a > b then a else b
theorem max_eq' (a b : Int) : spec_l00Max.f a b = some (mxG a b) := by unfold spec_l00Max.f mxG; split <;> rfl
def fromG (rising : Bool) (lst : List Int) : Nat := if rising = true ∧ 0 < lst.length then (rd lst ((lst.length : Int) - 1)).toNat else 0
def addG (t sums : List Int) (p k : Nat) : List Int := sums.set k (wrap64 (rd sums k + rd t p))
def giveM (t : List Int) (cut : Nat) (rising : Bool) : Nat → List Int → List Int → Int → List Int × Int → List Int × Int
  | 0, lst, sums, most, σ => if 0 ≤ σ.2 ∧ σ.2 ≤ most then σ else (lst, most)
  | r + 1, lst, sums, most, σ => if 0 ≤ σ.2 ∧ σ.2 ≤ most then σ else
      (List.range (cut - fromG rising lst)).foldl (fun σ (i : Nat) => giveM t cut rising r (lst ++ [((fromG rising lst + i : Nat) : Int)]) (addG t sums lst.length (fromG rising lst + i)) (mxG most (rd (addG t sums lst.length (fromG rising lst + i)) ((fromG rising lst + i : Nat) : Int))) σ) σ
def stepG (t : List Int) (cut : Nat) (rising : Bool) (r : Nat) (lst sums : List Int) (most : Int) (σ : List Int × Int) (i : Nat) : List Int × Int :=
  giveM t cut rising r (lst ++ [((fromG rising lst + i : Nat) : Int)]) (addG t sums lst.length (fromG rising lst + i)) (mxG most (rd (addG t sums lst.length (fromG rising lst + i)) ((fromG rising lst + i : Nat) : Int))) σ
theorem giveM_succ (t : List Int) (cut : Nat) (rising : Bool) (r : Nat) (lst sums : List Int) (most : Int) (σ : List Int × Int) :
    giveM t cut rising (r + 1) lst sums most σ = if 0 ≤ σ.2 ∧ σ.2 ≤ most then σ else (List.range (cut - fromG rising lst)).foldl (stepG t cut rising r lst sums most) σ := rfl
theorem rd_set (l : List Int) (k : Nat) (x : Int) (h : k < l.length) : rd (l.set k x) (k : Int) = x := by
  unfold rd
  rw [Int.toNat_natCast, List.getD_eq_getElem?_getD, List.getElem?_set_self h]; rfl
theorem set_back (l : List Int) (k : Nat) (b : Int) (h : k < l.length) (hw : wrap64 (rd l (k : Int)) = rd l (k : Int)) : (l.set k (wrap64 (rd l (k : Int) + b))).set k (wrap64 (wrap64 (rd l (k : Int) + b) - b)) = l := by
  rw [List.set_set, show wrap64 (wrap64 (rd l (k : Int) + b) - b) = rd l (k : Int) by
    rw [← hw]; unfold wrap64; omega]
  unfold rd
  rw [Int.toNat_natCast, List.getD_eq_getElem?_getD, List.getElem?_eq_getElem h, Option.getD_some]
  exact List.set_getElem_self h
theorem own_some (l : List Int) (hl : l.length ≤ 1048576) : spec_l00Own.f l = some l := by
  unfold spec_l00Own.f
  rw [Option.bind_some, if_pos (by simp; omega), List.nil_append]
theorem rd_mem'' (l : List Int) (n : Nat) (h : n < l.length) : rd l n ∈ l := by
  unfold rd
  rw [Int.toNat_natCast, List.getD_eq_getElem?_getD, List.getElem?_eq_getElem h]
  exact List.getElem_mem h
theorem wrap_wrap (x : Int) : wrap64 (wrap64 x) = wrap64 x := by unfold wrap64; omega
def apart (u v : Value) : Prop := ∀ k, u.ownBlock = some k → v.ownBlock ≠ some k
abbrev RI (w : World) (B g : Nat) (v : Value) (l : List Int) : Prop := Kd.R (Kd.int .i64) 2 w B (fun k => k ≠ g) v l
structure InvG (w0 : World) (B g : Nat) (A0 : Option Addr) (c0 : Nat) (l0 : List Int) (cut : Nat) (rising : Bool) (lst sums : List Int) (σ : List Int × Int) (vl vs vb : Value) (w : World) : Prop where
  hg : w.heap[g]? = some (.cells #[.slice A0 l0.length c0, .int .i64 (cut : Int), .bool rising, vl, vs, vb, .int .i64 σ.2] 62 (0, 0))
  hl : RI w B g vl lst
  hs : RI w B g vs sums
  hb : RI w B g vb σ.1
  a1 : apart vl vs
  a2 : apart vl vb
  a3 : apart vs vb
  bel : Below B w0 w
  hB : B ≤ g
section
variable {w0 w w1 w2 : World} {B g : Nat} {A0 : Option Addr} {c0 : Nat} {l0 : List Int} {cut : Nat} {rising : Bool} {lst sums : List Int} {σ : List Int × Int} {vl vs vb : Value}
theorem InvG.below (h : InvG w0 B g A0 c0 l0 cut rising lst sums σ vl vs vb w) (hb : Below w.heap.size w w1) : InvG w0 B g A0 c0 l0 cut rising lst sums σ vl vs vb w1 :=
  ⟨(hb.block _ (blk_lt' h.hg)).trans h.hg, Kd.R_below h.hl hb, Kd.R_below h.hs hb, Kd.R_below h.hb hb, h.a1, h.a2, h.a3, h.bel.trans (hb.mono (by have := blk_lt' h.hg; have := h.hB; omega)), h.hB⟩
theorem InvG.drew (h : InvG w0 B g A0 c0 l0 cut rising lst sums σ vl vs vb w) : InvG w0 B g A0 c0 l0 cut rising lst sums σ vl vs vb w.drew := h.below (below_drew (Below.refl _ _))
theorem RI_far {v : Value} {l : List Int} (h : RI w B g v l) (j : Nat) (u : Value) : RI (w.setCell ⟨g, j, none⟩ u) B g v l := Kd.R_far (p := ⟨g, j, none⟩) h (fun _ hk => hk) u
theorem InvG.lt (h : InvG w0 B g A0 c0 l0 cut rising lst sums σ vl vs vb w) : g < w.heap.size := blk_lt' h.hg
theorem own_lt {v : Value} {l : List Int} (h : RI w B g v l) (k : Nat) (hk : v.ownBlock = some k) : k < w.heap.size := (Kd.R_bound h).1 k hk |>.2.2.1
theorem InvG.setList (h : InvG w0 B g A0 c0 l0 cut rising lst sums σ vl vs vb w) {v : Value} {l : List Int} (hv : RI w B g v l) (b1 : apart v vs) (b2 : apart v vb) : InvG w0 B g A0 c0 l0 cut rising l sums σ v vs vb (w.setCell ⟨g, 3, none⟩ v) :=
  ⟨blk_set h.hg 3 v, RI_far hv _ _, RI_far h.hs _ _, RI_far h.hb _ _, b1, b2, h.a3, h.bel.setCell h.hB _, h.hB⟩
theorem InvG.setBest (h : InvG w0 B g A0 c0 l0 cut rising lst sums σ vl vs vb w) {v : Value} {l : List Int} (hv : RI w B g v l) (b1 : apart vl v) (b2 : apart vs v) : InvG w0 B g A0 c0 l0 cut rising lst sums (l, σ.2) vl vs v (w.setCell ⟨g, 5, none⟩ v) :=
  ⟨blk_set h.hg 5 v, RI_far h.hl _ _, RI_far h.hs _ _, RI_far hv _ _, h.a1, b1, b2, h.bel.setCell h.hB _, h.hB⟩
theorem InvG.setLeast (h : InvG w0 B g A0 c0 l0 cut rising lst sums σ vl vs vb w) (m : Int) : InvG w0 B g A0 c0 l0 cut rising lst sums (σ.1, m) vl vs vb (w.setCell ⟨g, 6, none⟩ (.int .i64 m)) :=
  ⟨blk_set h.hg 6 _, RI_far h.hl _ _, RI_far h.hs _ _, RI_far h.hb _ _, h.a1, h.a2, h.a3, h.bel.setCell h.hB _, h.hB⟩
theorem RI_grown {v : Value} {l : List Int} {row : Option Nat} (h : RI w B g v l) (hg : w.grownBy w1 row) (hne : ∀ k, v.ownBlock = some k → row ≠ some k) : RI w1 B g v l := by
  have h2 : Kd.R (Kd.int .i64) 2 w B (fun k => k ≠ g ∧ row ≠ some k) v l := Kd.R_of_own (Kd.own_of_R h) (fun k hk => ⟨h.1 k hk, hne k hk⟩)
  exact Kd.R_mono (Kd.R_grown h2 hg (fun k hk e => hk.2 e.symm)) (fun k hk => hk.1)
theorem InvG.grown (h : InvG w0 B g A0 c0 l0 cut rising lst sums σ vl vs vb w) {v : Value} {l : List Int} (hv : RI w1 B g v l) (hgr : w.grownBy w1 vl.ownBlock) (hat : v.ownBlock = vl.ownBlock ∨ ∃ b, v.ownBlock = some b ∧ w.heap.size ≤ b) (hbel : Below B w0 w1) :
    w1.heap[g]? = some (.cells #[.slice A0 l0.length c0, .int .i64 (cut : Int), .bool rising, vl, vs, vb, .int .i64 σ.2] 62 (0, 0)) ∧ InvG w0 B g A0 c0 l0 cut rising l sums σ v vs vb (w1.setCell ⟨g, 3, none⟩ v) := by
  have hgg : w1.heap[g]? = w.heap[g]? := hgr.block g h.lt (fun e => h.hl.1 g e.symm rfl)
  have hs := RI_grown h.hs hgr (fun k hk e => h.a1 k e hk)
  have hb := RI_grown h.hb hgr (fun k hk e => h.a2 k e hk)
  have ap : ∀ u, (∀ k, u.ownBlock = some k → k < w.heap.size) → apart vl u → apart v u := by
    intro u hu ha k hk e
    rcases hat with h1 | ⟨b, h1, h2⟩
    · rw [h1] at hk; exact ha k hk e
    · rw [h1] at hk
      injection hk with hk
      have := hu k e
      omega
  refine ⟨hgg.trans h.hg, blk_set (hgg.trans h.hg) 3 v, RI_far hv _ _, RI_far hs _ _, RI_far hb _ _, ap _ (own_lt h.hs) h.a1, ap _ (own_lt h.hb) h.a2, h.a3, hbel.setCell h.hB _, h.hB⟩
theorem InvG.setSum {gs n cap : Nat} (h : InvG w0 B g A0 c0 l0 cut rising lst sums σ vl (.slice (some ⟨gs, 0, none⟩) n cap) vb w) (hB : B ≤ gs) (k : Nat) (x : Int) : InvG w0 B g A0 c0 l0 cut rising lst (sums.set k x) σ vl (.slice (some ⟨gs, 0, none⟩) n cap) vb (w.setCell ⟨gs, k, none⟩ (.int .i64 x)) := by
  obtain ⟨h1, h2⟩ := Kd.R_putg h.hs (k : Int) x
  have hne : gs ≠ g := h.hs.1 gs rfl
  refine ⟨(Below.heap_setCell _ _ _ _ (fun e => hne e.symm)).trans h.hg, RI_grown h.hl h2 (fun k hk e => h.a1 k hk e), h1, RI_grown h.hb h2 (fun k hk e => h.a3 gs rfl (by rw [hk, ← e])), h.a1, h.a2, h.a3, h.bel.setCell hB _, h.hB⟩
theorem RI_new {v : Value} {l : List Int} (hr : Kd.R (Kd.int .i64) 2 w1 w.heap.size (fun _ => True) v l) (h : InvG w0 B g A0 c0 l0 cut rising lst sums σ vl vs vb w) : RI w1 B g v l :=
  Kd.R_lower (Kd.R_mono (Kd.R_bound hr) (fun k hk e => by have h1 : w.heap.size ≤ k := hk.2.1; have := h.lt; omega)) (by have := h.lt; have := h.hB; omega)
theorem apart_new {v u : Value} {l : List Int} (h : RI w B g u l) (hv : ∀ k, v.ownBlock = some k → w.heap.size ≤ k) : apart u v := fun k hk e => by have := own_lt h k hk; have := hv k e; omega
theorem InvG.cell (h : InvG w0 B g A0 c0 l0 cut rising lst sums σ vl vs vb w) (i : Nat) (v : Value) (hv : (#[.slice A0 l0.length c0, .int .i64 (cut : Int), .bool rising, vl, vs, vb, .int .i64 σ.2] : Array Value)[i]? = some v) : w.cell? ⟨g, i, none⟩ = some v := (blk_cell h.hg i).trans hv
end
theorem skipE_ {P : Program} {ops : Array Oper} {Q : Exit → Act → World → Prop} {oi : Oper} {a : Act} {w w1 : World} {K : Act → World → Prop} (hw : Region.wanted oi (yielded ops a.tmps) = true) (hN : oi.dst = none) (hrun : (execOp a.eval oi).run P w = .ok .skip w1)
    (h : ∀ w2, w2 = w1 → K a w2) : if Region.wanted oi (yielded ops a.tmps) = true then Oper.wp P oi a w K Q else K (a.put none undef) w := skip_ hw hN hrun (h w1 rfl)
set_option maxRecDepth 100000 in
set_option maxHeartbeats 2000000 in
theorem give_calls (w0 : World) (g : Nat) (A0 : Option Addr) (c0 : Nat) (l0 : List Int) (cut : Nat) (rising : Bool)
    (HR0 : Aside0 (Kd.C (Kd.int .i64) w0 A0 l0.length l0)) (hc0 : Aside0 (l0.length ≤ c0)) (HN : Aside0 (l0.length ≤ 1000)) (HCut : Aside0 (cut ≤ 1000)) :
    ∀ (r : Nat) (lst sums : List Int) (most : Int) (σ : List Int × Int) (vl vs vb : Value) (w : World), Aside0 (lst.length + r = l0.length) → Aside0 (∀ y ∈ lst, 0 ≤ y ∧ y < cut) → Aside0 (sums.length = cut) → Aside0 (∀ y ∈ sums, wrap64 y = y) →
      Aside0 (InvG w0 w0.heap.size g A0 c0 l0 cut rising lst sums σ vl vs vb w) →
      Calls Try.prog 51 #[.pointer (some ⟨g, 0, none⟩), .int .i64 most] w
        fun e w' => e = .returned (.tuple #[]) ∧ ∃ vl' vs' vb', InvG w0 w0.heap.size g A0 c0 l0 cut rising lst sums (giveM l0 cut rising r lst sums most σ) vl' vs' vb' w' := by
  intro r
  induction r with
  | zero =>
    intro lst sums most σ vl vs vb w HO HL HS HW HV
    obtain ⟨Al, cl, el⟩ := Kd.R_slice HV.out.hl
    subst el
    have h3 := HV.out.cell 3 _ rfl
    have h6 := HV.out.cell 6 _ rfl
    have h0 := HV.out.cell 0 _ rfl
    obtain ⟨s, hs⟩ : ∃ s, σ.2 = s := ⟨_, rfl⟩
    have HE := Aside0.mk (show giveM l0 cut rising 0 lst sums most σ = if 0 ≤ s ∧ s ≤ most then σ else (lst, most) by rw [← hs]; rfl)
    rw [hs] at h6
    clear hs
    have hl := HO.out
    have hn : ((lst.length : Int) == (l0.length : Int)) = true := by rw [beq_iff_eq]; omega
    clear hl
    by_cases c1 : 0 ≤ s
    · have d1 : decide (0 ≤ s) = true := decide_eq_true c1
      by_cases c2 : s ≤ most
      · have d2 : decide (s ≤ most) = true := decide_eq_true c2
        have HE2 := Aside0.mk (HE.out.trans (if_pos ⟨c1, c2⟩))
        clear c1 c2 HE
        go_enter Try.func51, Try.ntmps51
        go_wp2_with fail
        refine bodyPost_ret (results_none rfl _ _ _) rfl ?_
        rw [HE2.out]
        exact ⟨rfl, _, _, _, HV.out⟩
      · have d2 : decide (s ≤ most) = false := decide_eq_false c2
        have HE2 := Aside0.mk (HE.out.trans (if_neg (fun h => c2 h.2)))
        clear c1 c2 HE
        go_enter Try.func51, Try.ntmps51
        go_wp2_with fail
        refine (spec_l00Own.calls Al cl lst lst _ (Kd.R_reads' HV.out.hl).2.2 (Kd.R_reads' HV.out.hl).2.1 (own_some lst (by have := HO.out; have := HN.out; omega))).mono ?_
        rintro e w2 ⟨v37, rfl, hr, hb⟩
        have HV2 := Aside0.mk (HV.out.below hb)
        have HF := Aside0.mk (show RI w2 w0.heap.size g v37 lst ∧ (∀ k, v37.ownBlock = some k → w.heap.size ≤ k) from ⟨RI_new hr HV.out, fun k hk => ((Kd.R_bound hr).1 k hk).2.1⟩)
        obtain ⟨A37, c37, rfl⟩ := Kd.R_slice hr
        have HA1 := Aside0.mk (apart_new HV.out.hl HF.out.2)
        have HA2 := Aside0.mk (apart_new HV.out.hs HF.out.2)
        clear hr hb h0 h3 h6
        have c5 := HV2.out.cell 5 _ rfl
        have f5 := blk_frozen HV2.out.hg 5
        have HV3 := Aside0.mk (HV2.out.setBest HF.out.1 HA1.out HA2.out)
        have c6 := HV3.out.cell 6 _ rfl
        have f6 := blk_frozen HV3.out.hg 6
        go_wp2_with fail
        refine bodyPost_ret (results_none rfl _ _ _) rfl ?_
        rw [HE2.out]
        exact ⟨rfl, _, _, _, HV3.out.setLeast most⟩
    · have d1 : decide (0 ≤ s) = false := decide_eq_false c1
      have HE2 := Aside0.mk (HE.out.trans (if_neg (fun h => c1 h.1)))
      clear c1 HE
      go_enter Try.func51, Try.ntmps51
      go_wp2_with fail
      refine (spec_l00Own.calls Al cl lst lst _ (Kd.R_reads' HV.out.hl).2.2 (Kd.R_reads' HV.out.hl).2.1 (own_some lst (by have := HO.out; have := HN.out; omega))).mono ?_
      rintro e w2 ⟨v37, rfl, hr, hb⟩
      have HV2 := Aside0.mk (HV.out.below hb)
      have HF := Aside0.mk (show RI w2 w0.heap.size g v37 lst ∧ (∀ k, v37.ownBlock = some k → w.heap.size ≤ k) from ⟨RI_new hr HV.out, fun k hk => ((Kd.R_bound hr).1 k hk).2.1⟩)
      obtain ⟨A37, c37, rfl⟩ := Kd.R_slice hr
      have HA1 := Aside0.mk (apart_new HV.out.hl HF.out.2)
      have HA2 := Aside0.mk (apart_new HV.out.hs HF.out.2)
      clear hr hb h0 h3 h6
      have c5 := HV2.out.cell 5 _ rfl
      have f5 := blk_frozen HV2.out.hg 5
      have HV3 := Aside0.mk (HV2.out.setBest HF.out.1 HA1.out HA2.out)
      have c6 := HV3.out.cell 6 _ rfl
      have f6 := blk_frozen HV3.out.hg 6
      go_wp2_with fail
      refine bodyPost_ret (results_none rfl _ _ _) rfl ?_
      rw [HE2.out]
      exact ⟨rfl, _, _, _, HV3.out.setLeast most⟩
  | succ r ih =>
    intro lst sums most σ vl vs vb w HO HL HS HW HV
    obtain ⟨ad, eA, _⟩ := Kd.at_int HR0.out (lst.length : Int) (by omega) (by have := HO.out; omega)
    subst eA
    obtain ⟨Al, cl, el⟩ := Kd.R_slice HV.out.hl
    subst el
    have h3 := HV.out.cell 3 _ rfl
    have h6 := HV.out.cell 6 _ rfl
    have h0 := HV.out.cell 0 _ rfl
    have h1 := HV.out.cell 1 _ rfl
    have h2 := HV.out.cell 2 _ rfl
    obtain ⟨s, hs⟩ : ∃ s, σ.2 = s := ⟨_, rfl⟩
    have HE := Aside0.mk (show giveM l0 cut rising (r + 1) lst sums most σ = if 0 ≤ s ∧ s ≤ most then σ else (List.range (cut - fromG rising lst)).foldl (stepG l0 cut rising r lst sums most) σ by rw [← hs]; rfl)
    rw [hs] at h6
    clear hs
    have hl := HO.out
    have hn : ((lst.length : Int) == (l0.length : Int)) = false := by rw [beq_eq_false_iff_ne]; omega
    clear hl
    have hll : (lst.length : Int) < (l0.length : Int) := by have := HO.out; omega
    have hl1000 : lst.length ≤ 1000 := by have := HN.out; omega
    have hc1000 : cut ≤ 1000 := HCut.out
    obtain ⟨F, hF⟩ : ∃ F, fromG rising lst = F := ⟨_, rfl⟩
    have HF := Aside0.mk hF
    clear hF
    go_enter Try.func51, Try.ntmps51
    go_upto_region 1 with fail
    go_cut [24] (fun v24 wc => v24 = .bool (decide (0 ≤ s ∧ s ≤ most)) ∧ wc = w)
    case first =>
      by_cases c1 : 0 ≤ s
      · have d1 : decide (0 ≤ s) = true := decide_eq_true c1
        by_cases c2 : s ≤ most
        · have d2 : decide (s ≤ most) = true := decide_eq_true c2
          have HD := Aside0.mk (show decide (0 ≤ s ∧ s ≤ most) = true from decide_eq_true ⟨c1, c2⟩)
          clear c1 c2
          go_wp2
          go_meet
          case rel => exact ⟨by rw [HD.out], rfl⟩
        · have d2 : decide (s ≤ most) = false := decide_eq_false c2
          have HD := Aside0.mk (show decide (0 ≤ s ∧ s ≤ most) = false from decide_eq_false (fun h => c2 h.2))
          clear c1 c2
          go_wp2
          go_meet
          case rel => exact ⟨by rw [HD.out], rfl⟩
      · have d1 : decide (0 ≤ s) = false := decide_eq_false c1
        have HD := Aside0.mk (show decide (0 ≤ s ∧ s ≤ most) = false from decide_eq_false (fun h => c1 h.1))
        clear c1
        go_wp2
        go_meet
        case rel => exact ⟨by rw [HD.out], rfl⟩
    case rest =>
      obtain ⟨rfl, hw_⟩ := hcut
      obtain rfl : w = wc := hw_.symm
      by_cases c1 : 0 ≤ s ∧ s ≤ most
      · have HE2 := Aside0.mk (HE.out.trans (if_pos c1))
        have d1 : decide (0 ≤ s ∧ s ≤ most) = true := decide_eq_true c1
        rw [d1]
        clear c1 HE d1
        go_wp2
        refine bodyPost_ret (results_none rfl _ _ _) rfl ?_
        rw [HE2.out]
        exact ⟨rfl, _, _, _, HV.out⟩
      · have HE2 := Aside0.mk (HE.out.trans (if_neg c1))
        have d1 : decide (0 ≤ s ∧ s ≤ most) = false := decide_eq_false c1
        rw [d1]
        clear c1 HE d1
        go_upto_region 6 with fail
        go_cut [51] (fun v51 wc => v51 = .bool (decide (rising = true ∧ 0 < lst.length)) ∧ wc = w)
        case first =>
          cases hri : rising with
          | false =>
            subst hri
            go_wp2
            go_meet
            case rel => exact ⟨by simp, rfl⟩
          | true =>
            subst hri
            have hd : decide ((0 : Int) < (lst.length : Int)) = decide (0 < lst.length) := by simp
            go_wp2
            go_meet
            case rel => exact ⟨by simp, rfl⟩
        case rest =>
          obtain ⟨rfl, hw_⟩ := hcut
          obtain rfl : w = wc := hw_.symm
          go_upto_if 51 with fail
          go_cut [5] (fun v5 wc => v5 = .int .i64 (F : Int) ∧ wc = w)
          case first =>
            by_cases c3 : rising = true ∧ 0 < lst.length
            · obtain ⟨ad2, e2, hy⟩ := Kd.at_int (Kd.R_reads' HV.out.hl).2.2 ((lst.length : Int) - 1) (by have := c3.2; omega) (by omega)
              subst e2
              rw [show ((lst.length : Int) - 1).toNat = lst.length - 1 by omega] at hy
              obtain ⟨y, hy2⟩ : ∃ y, rd lst ((lst.length : Int) - 1) = y := ⟨_, rfl⟩
              rw [hy2] at hy
              have hyF : y = (F : Int) := by
                have h1 := HF.out
                unfold fromG at h1
                rw [if_pos c3, hy2] at h1
                have h2 := HL.out y (by
                  rw [← hy2]; unfold rd
                  rw [List.getD_eq_getElem?_getD, List.getElem?_eq_getElem (show ((lst.length : Int) - 1).toNat < lst.length by have := c3.2; omega)]
                  exact List.getElem_mem _)
                omega
              subst hyF
              have p1 : (0 : Int) ≤ (lst.length : Int) - 1 := by have := c3.2; omega
              have p2 : (lst.length : Int) - 1 < lst.length := by omega
              have p3 : ((lst.length : Int) - 1).toNat = lst.length - 1 := by omega
              have d3 : decide (rising = true ∧ 0 < lst.length) = true := decide_eq_true c3
              rw [d3]
              clear c3 hy2 d3
              go_wp2
              go_meet
              case rel => exact ⟨rfl, rfl⟩
            · have hF0 : F = 0 := by have h1 := HF.out; unfold fromG at h1; rw [if_neg c3] at h1; exact h1.symm
              subst hF0
              have d3 : decide (rising = true ∧ 0 < lst.length) = false := decide_eq_false c3
              rw [d3]
              clear c3 d3
              go_wp2
              go_meet
              case rel => exact ⟨rfl, rfl⟩
          case rest =>
            obtain ⟨rfl, hw_⟩ := hcut
            obtain rfl : w = wc := hw_.symm
            have HFc := Aside0.mk (show (List.range (cut - fromG rising lst)).foldl (stepG l0 cut rising r lst sums most) σ = (List.range (cut - F)).foldl (stepG l0 cut rising r lst sums most) σ by rw [HF.out])
            have hF1000 : F ≤ 1000 := by
              have h1 := HF.out
              unfold fromG at h1
              split at h1
              · rename_i c3
                have h2 := HL.out (rd lst ((lst.length : Int) - 1)) (by
                  unfold rd
                  rw [List.getD_eq_getElem?_getD, List.getElem?_eq_getElem (show ((lst.length : Int) - 1).toNat < lst.length by have := c3.2; omega)]
                  exact List.getElem_mem _)
                omega
              · omega
            clear h0 h1 h2 h3 h6 hn
            go_wp2
            go_loopg [6] (cut - F) (fun gg s6 wr => ∃ i : Nat, i ≤ cut - F ∧ (cut - F) - i ≤ gg ∧ s6 = .int .i64 ((F + i : Nat) : Int) ∧ Aside0 (∃ vl vs vb, InvG w0 w0.heap.size g (some ad) c0 l0 cut rising lst sums ((List.range i).foldl (stepG l0 cut rising r lst sums most) σ) vl vs vb wr))
            case atStart => exact ⟨0, by omega, by omega, rfl, ⟨_, _, _, HV.out⟩⟩
            case round =>
              obtain ⟨i, hi, hg, rfl, HV1⟩ := hrel
              obtain ⟨vl1, vs1, vb1, hv1⟩ := HV1.out
              have H1 := Aside0.mk hv1
              clear HV1 hv1
              obtain ⟨k, hk⟩ : ∃ k, F + i = k := ⟨_, rfl⟩
              rw [hk]
              have hcut0 := H1.out.cell 1 _ rfl
              by_cases hlt : i < cut - F
              · have hltz : (k : Int) < (cut : Int) := by omega
                have hkc : k < cut := by omega
                have HS1 := Aside0.mk (show (List.range (i + 1)).foldl (stepG l0 cut rising r lst sums most) σ = stepG l0 cut rising r lst sums most ((List.range i).foldl (stepG l0 cut rising r lst sums most) σ) i from fold_succ _ σ i)
                generalize (List.range i).foldl (stepG l0 cut rising r lst sums most) σ = σi at H1 HS1
                replace HS1 : Aside0 ((List.range (i + 1)).foldl (stepG l0 cut rising r lst sums most) σ = giveM l0 cut rising r (lst ++ [(k : Int)]) (addG l0 sums lst.length k) (mxG most (rd (addG l0 sums lst.length k) (k : Int))) σi) := ⟨by rw [HS1.out]; unfold stepG; rw [HF.out, hk]⟩
                obtain ⟨Al1, cl1, e1⟩ := Kd.R_slice H1.out.hl
                subst e1
                obtain ⟨gs, cs, e2, hgs, _⟩ := Kd.R_form H1.out.hs (by have := HS.out; omega)
                rw [HS.out] at e2
                subst e2
                have GS := Aside0.mk hgs
                have hc3 := H1.out.cell 3 _ rfl
                obtain ⟨xs, hxs⟩ : ∃ xs, rd sums (k : Int) = xs := ⟨_, rfl⟩
                obtain ⟨xt, hxt⟩ : ∃ xt, rd l0 (lst.length : Int) = xt := ⟨_, rfl⟩
                have HXS := Aside0.mk hxs
                have HXT := Aside0.mk hxt
                clear hgs hxs hxt hlt hi
                go_wp2_with (first | ((with_reducible refine gate_builtin (b := .append) (xs := #[.tmp 73, .tmp 75]) rfl ?_); at_builtin; refine Kd.R_append (Kd.int .i64) (w0 := w0) w0.heap.size rfl (.tmp 73) (.tmp 75) 24 2 (.int .i64 0) 8 rfl Try.underlying24 info_i64 rfl (by decide) (by omega) _ lst (k : Int) [.int .i64 (k : Int)] (fun q => q ≠ g) (fun _ => False) rfl rfl ?aP (fun _ hk => hk.elim) ?aF ?aO ?aB ?aS ?aL ?_; (case aP => exact rfl); (case aB => exact H1.out.bel); (case aF => exact (fun q hq e => by have := H1.out.lt; omega)); (case aO => exact H1.out.hl); (case aS => exact (below_size H1.out.bel)); (case aL => omega); intro v76 w1 ho hb hg' hat; obtain ⟨A76, c76, e76⟩ := Kd.R_slice ho; rw [show (lst ++ [(k : Int)]).length = lst.length + 1 by simp] at e76; subst e76; have hG := H1.out.grown ho hg' hat hb; have hc31 : w1.cell? ⟨g, 3, none⟩ = some (.slice Al1 lst.length cl1) := (blk_cell hG.1 3).trans rfl; have hf31 := blk_frozen hG.1 3; have H2 := Aside0.mk hG.2; clear hG ho hb hg' hat hc3 H1 hcut0))
                clear hc31 hf31
                have hsf' := Kd.R_celln 0 H2.out.hs (k : Int) (by omega) (by omega)
                have hsc : _ = some (Value.int .i64 xs) := (hsf'.1).trans (by rw [← HXS.out]; rfl)
                have hsf := hsf'.2
                rw [Int.toNat_natCast] at hsc hsf
                obtain ⟨ad', ea, htc⟩ := Kd.at_int (Kd.C_below HR0.out H2.out.bel) (lst.length : Int) (by omega) hll
                injection ea with ea
                subst ea
                rw [HXT.out, Int.toNat_natCast] at htc
                clear hsf'
                refine start_ (n := 17) (S := fun w' => w'.cell? ⟨g, 4, none⟩ = some (.slice (some ⟨gs, 0, none⟩) cut cs) ∧ w'.cell? ⟨g, 0, none⟩ = some (.slice (some ad) l0.length c0) ∧ w'.cell? ⟨gs, k, none⟩ = some (.int .i64 xs) ∧ w'.frozen? ⟨gs, k, none⟩ = false ∧ w'.cell? (ad.add lst.length) = some (.int .i64 xt)) (ds := [16]) #[false, false, false, false, false, false, false, false, false, false, false, false, false, false, false, false, false] (by kernel_rfl) rfl rfl ⟨(H2.out.cell 4 _ rfl), (H2.out.cell 0 _ rfl), hsc, hsf, htc⟩ (fun hHeld => ?_)
                refine pure_ (i := 0) (N := some 79) (v := ?_) (a' := ?_) #[true, false, false, false, false, false, false, false, false, false, false, false, false, false, false, false, false] rfl rfl (by kernel_rfl) (fun _ _ _ h => h) (Or.inl ⟨by rfl, ?_⟩) ?_ ?_
                rotate_left
                · intro w'
                  go_simp
                  with_reducible rfl
                rotate_left
                · simp only [Act.put, List.setIfInBounds_toArray, List.set_cons_zero, List.set_cons_succ, i64_w, i32_w]
                  rfl
                refine pure_ (i := 1) (N := some 80) (v := ?_) (a' := ?_) #[true, true, false, false, false, false, false, false, false, false, false, false, false, false, false, false, false] rfl rfl (by kernel_rfl) (fun _ _ _ h => h) (Or.inl ⟨by rfl, ?_⟩) ?_ ?_
                rotate_left
                · intro w'
                  go_simp
                  with_reducible rfl
                rotate_left
                · simp only [Act.put, List.setIfInBounds_toArray, List.set_cons_zero, List.set_cons_succ, i64_w, i32_w]
                  rfl
                refine pure_ (i := 2) (N := some 81) (v := ?_) (a' := ?_) #[true, true, true, false, false, false, false, false, false, false, false, false, false, false, false, false, false] rfl rfl (by kernel_rfl) (fun _ _ _ h => h) (Or.inl ⟨by rfl, ?_⟩) ?_ ?_
                rotate_left
                · intro w'
                  go_simp
                  with_reducible rfl
                rotate_left
                · simp only [Act.put, List.setIfInBounds_toArray, List.set_cons_zero, List.set_cons_succ, i64_w, i32_w]
                  rfl
                refine pure_ (i := 4) (N := some 83) (v := ?_) (a' := ?_) #[true, true, true, false, true, false, false, false, false, false, false, false, false, false, false, false, false] rfl rfl (by kernel_rfl) (fun _ _ _ h => h) (Or.inl ⟨by rfl, ?_⟩) ?_ ?_
                rotate_left
                · intro w'
                  go_simp
                  with_reducible rfl
                rotate_left
                · simp only [Act.put, List.setIfInBounds_toArray, List.set_cons_zero, List.set_cons_succ, i64_w, i32_w]
                  rfl
                refine pure_ (i := 7) (N := some 86) (v := ?_) (a' := ?_) #[true, true, true, false, true, false, false, true, false, false, false, false, false, false, false, false, false] rfl rfl (by kernel_rfl) (fun _ _ _ h => h) (Or.inl ⟨by rfl, ?_⟩) ?_ ?_
                rotate_left
                · intro w'
                  go_simp
                  with_reducible rfl
                rotate_left
                · simp only [Act.put, List.setIfInBounds_toArray, List.set_cons_zero, List.set_cons_succ, i64_w, i32_w]
                  rfl
                refine pure_ (i := 8) (N := some 87) (v := ?_) (a' := ?_) #[true, true, true, false, true, false, false, true, true, false, false, false, false, false, false, false, false] rfl rfl (by kernel_rfl) (fun _ _ _ h => h) (Or.inl ⟨by rfl, ?_⟩) ?_ ?_
                rotate_left
                · intro w'
                  go_simp
                  with_reducible rfl
                rotate_left
                · simp only [Act.put, List.setIfInBounds_toArray, List.set_cons_zero, List.set_cons_succ, i64_w, i32_w]
                  rfl
                refine pure_ (i := 9) (N := some 88) (v := ?_) (a' := ?_) #[true, true, true, false, true, false, false, true, true, true, false, false, false, false, false, false, false] rfl rfl (by kernel_rfl) (fun _ _ _ h => h) (Or.inl ⟨by rfl, ?_⟩) ?_ ?_
                rotate_left
                · intro w'
                  go_simp
                  with_reducible rfl
                rotate_left
                · simp only [Act.put, List.setIfInBounds_toArray, List.set_cons_zero, List.set_cons_succ, i64_w, i32_w]
                  rfl
                refine pure_ (i := 11) (N := some 90) (v := ?_) (a' := ?_) #[true, true, true, false, true, false, false, true, true, true, false, true, false, false, false, false, false] rfl rfl (by kernel_rfl) (fun _ _ _ h => h) (Or.inl ⟨by rfl, ?_⟩) ?_ ?_
                rotate_left
                · intro w'
                  go_simp
                  with_reducible rfl
                rotate_left
                · simp only [Act.put, List.setIfInBounds_toArray, List.set_cons_zero, List.set_cons_succ, i64_w, i32_w]
                  rfl
                refine take_ (i := 3) (N := some 82) (v := ?_) (a' := ?_) #[true, true, true, true, true, false, false, true, true, true, false, true, false, false, false, false, false] rfl rfl (by kernel_rfl) (fun _ _ _ h => h) (Or.inl ⟨by rfl, ?_⟩) hHeld ?_ ?_
                rotate_left
                · rintro w' ⟨s0, s1, s2, s3, s4⟩
                  go_simp
                  with_reducible rfl
                rotate_left
                · simp only [Act.put, List.setIfInBounds_toArray, List.set_cons_zero, List.set_cons_succ, i64_w, i32_w]
                  rfl
                refine pure_ (i := 5) (N := some 84) (v := ?_) (a' := ?_) #[true, true, true, true, true, true, false, true, true, true, false, true, false, false, false, false, false] rfl rfl (by kernel_rfl) (fun _ _ _ h => h) (Or.inl ⟨by rfl, ?_⟩) ?_ ?_
                rotate_left
                · intro w'
                  go_simp
                  with_reducible rfl
                rotate_left
                · simp only [Act.put, List.setIfInBounds_toArray, List.set_cons_zero, List.set_cons_succ, i64_w, i32_w]
                  rfl
                refine take_ (i := 6) (N := some 85) (v := ?_) (a' := ?_) #[true, true, true, true, true, true, true, true, true, true, false, true, false, false, false, false, false] rfl rfl (by kernel_rfl) (fun _ _ _ h => h) (Or.inl ⟨by rfl, ?_⟩) hHeld ?_ ?_
                rotate_left
                · rintro w' ⟨s0, s1, s2, s3, s4⟩
                  go_simp
                  with_reducible rfl
                rotate_left
                · simp only [Act.put, List.setIfInBounds_toArray, List.set_cons_zero, List.set_cons_succ, i64_w, i32_w]
                  rfl
                refine take_ (i := 10) (N := some 89) (v := ?_) (a' := ?_) #[true, true, true, true, true, true, true, true, true, true, true, true, false, false, false, false, false] rfl rfl (by kernel_rfl) (fun _ _ _ h => h) (Or.inl ⟨by rfl, ?_⟩) hHeld ?_ ?_
                rotate_left
                · rintro w' ⟨s0, s1, s2, s3, s4⟩
                  go_simp
                  with_reducible rfl
                rotate_left
                · simp only [Act.put, List.setIfInBounds_toArray, List.set_cons_zero, List.set_cons_succ, i64_w, i32_w]
                  rfl
                refine pure_ (i := 12) (N := some 91) (v := ?_) (a' := ?_) #[true, true, true, true, true, true, true, true, true, true, true, true, true, false, false, false, false] rfl rfl (by kernel_rfl) (fun _ _ _ h => h) (Or.inl ⟨by rfl, ?_⟩) ?_ ?_
                rotate_left
                · intro w'
                  go_simp
                  with_reducible rfl
                rotate_left
                · simp only [Act.put, List.setIfInBounds_toArray, List.set_cons_zero, List.set_cons_succ, i64_w, i32_w]
                  rfl
                refine take_ (i := 13) (N := some 92) (v := ?_) (a' := ?_) #[true, true, true, true, true, true, true, true, true, true, true, true, true, true, false, false, false] rfl rfl (by kernel_rfl) (fun _ _ _ h => h) (Or.inl ⟨by rfl, ?_⟩) hHeld ?_ ?_
                rotate_left
                · rintro w' ⟨s0, s1, s2, s3, s4⟩
                  go_simp
                  with_reducible rfl
                rotate_left
                · simp only [Act.put, List.setIfInBounds_toArray, List.set_cons_zero, List.set_cons_succ, i64_w, i32_w]
                  rfl
                refine pure_ (i := 14) (N := some 93) (v := ?_) (a' := ?_) #[true, true, true, true, true, true, true, true, true, true, true, true, true, true, true, false, false] rfl rfl (by kernel_rfl) (fun _ _ _ h => h) (Or.inl ⟨by rfl, ?_⟩) ?_ ?_
                rotate_left
                · intro w'
                  go_simp
                  with_reducible rfl
                rotate_left
                · simp only [Act.put, List.setIfInBounds_toArray, List.set_cons_zero, List.set_cons_succ, i64_w, i32_w]
                  rfl
                refine pure_ (i := 15) (N := some 94) (v := ?_) (a' := ?_) #[true, true, true, true, true, true, true, true, true, true, true, true, true, true, true, true, false] rfl rfl (by kernel_rfl) (fun _ _ _ h => h) (Or.inl ⟨by rfl, ?_⟩) ?_ ?_
                rotate_left
                · intro w'
                  go_simp
                  with_reducible rfl
                rotate_left
                · simp only [Act.put, List.setIfInBounds_toArray, List.set_cons_zero, List.set_cons_succ, i64_w, i32_w]
                  rfl
                refine last_ (i := 16) (N := none) #[true, true, true, true, true, true, true, true, true, true, true, true, true, true, true, true, true] rfl rfl (by kernel_rfl) (by decide) (fun K hK => ?_)
                have g0_ := hHeld.2.2.1
                have g1_ := hHeld.2.2.2.1
                refine skipE_ (w1 := ?_) (by rfl) rfl ?_ ?_
                rotate_left
                · go_simp
                  rfl
                intro w3 hw_
                have Hw3 := Aside0.mk (show InvG w0 w0.heap.size g (some ad) c0 l0 cut rising (lst ++ [(k : Int)]) (sums.set k (wrap64 (xs + xt))) σi (.slice A76 (lst.length + 1) c76) (.slice (some ⟨gs, 0, none⟩) cut cs) vb1 w3 from by rw [hw_]; exact (H2.out.setSum GS.out k (wrap64 (xs + xt))).drew)
                clear hw_ g0_ g1_
                refine hK.out _ _ ?_
                clear hK K
                refine done_ (by kernel_rfl) ?_
                have HSL := Aside0.mk (show (sums.set k (wrap64 (xs + xt))).length = cut by rw [List.length_set]; exact HS.out)
                have HY := Aside0.mk (rd_set sums k (wrap64 (xs + xt)) (by have := HS.out; omega))
                have HBK := Aside0.mk (show (sums.set k (wrap64 (xs + xt))).set k (wrap64 (wrap64 (xs + xt) - xt)) = sums by rw [← HXS.out]; exact set_back sums k xt (by have := HS.out; omega) (HW.out _ (rd_mem'' sums k (by have := HS.out; omega))))
                have HW2 := Aside0.mk (show ∀ y ∈ sums.set k (wrap64 (xs + xt)), wrap64 y = y from fun z hz => by rcases List.mem_or_eq_of_mem_set hz with h | h; exact HW.out z h; rw [h]; exact wrap_wrap _)
                have HAD := Aside0.mk (show addG l0 sums lst.length k = sums.set k (wrap64 (xs + xt)) by unfold addG; rw [HXS.out, HXT.out])
                rw [HAD.out, HY.out] at HS1
                generalize sums.set k (wrap64 (xs + xt)) = sums1 at Hw3 HSL HY HBK HW2 HS1
                generalize wrap64 (xs + xt) = y at Hw3 HY HBK HS1
                clear hHeld HAD hsc hsf htc H2 HXS
                have q4 := Hw3.out.cell 4 _ rfl
                have hy' := (Kd.R_celln 0 Hw3.out.hs (k : Int) (by omega) (by omega)).1
                have hyc : _ = some (Value.int .i64 y) := hy'.trans (by rw [← HY.out]; rfl)
                rw [Int.toNat_natCast] at hyc
                clear hy'
                go_wp2_with fail
                refine (spec_l00Max.calls most y (mxG most y) _ (max_eq' most y)).mono ?_
                rintro e w4 ⟨rfl, ⟨nd, rfl⟩⟩
                have H4 := Aside0.mk (Hw3.out.below (pw_below_drewN (Below.refl _ _) nd))
                clear q4 hyc
                go_wp2_with fail
                refine (ih (lst ++ [(k : Int)]) sums1 (mxG most y) σi _ _ vb1 _ ⟨by have := HO.out; simp; omega⟩ ⟨fun z hz => by rcases List.mem_append.1 hz with h | h; exact HL.out z h; rw [List.mem_singleton.1 h]; omega⟩ HSL HW2 H4).mono ?_
                rintro e w5 ⟨rfl, vl5, vs5, vb5, h5⟩
                generalize giveM l0 cut rising r (lst ++ [(k : Int)]) sums1 (mxG most y) σi = σ5 at h5 HS1
                obtain ⟨gL, cL, e1, _, _⟩ := Kd.R_form h5.hl (by simp)
                rw [show (lst ++ [(k : Int)]).length = lst.length + 1 by simp] at e1
                subst e1
                obtain ⟨gs, cs, e2, hgs, _⟩ := Kd.R_form h5.hs (by have := HSL.out; omega)
                rw [HSL.out] at e2
                subst e2
                have GS := Aside0.mk hgs
                have H5 := Aside0.mk h5
                clear h5 hgs H4 Hw3
                have hsf' := Kd.R_celln 0 H5.out.hs (k : Int) (by omega) (by omega)
                have hsc : _ = some (Value.int .i64 y) := (hsf'.1).trans (by rw [← HY.out]; rfl)
                have hsf := hsf'.2
                rw [Int.toNat_natCast] at hsc hsf
                obtain ⟨ad', ea, htc⟩ := Kd.at_int (Kd.C_below HR0.out H5.out.bel) (lst.length : Int) (by omega) hll
                injection ea with ea
                subst ea
                rw [HXT.out, Int.toNat_natCast] at htc
                clear hsf'
                go_wp2_with fail
                refine start_ (n := 17) (S := fun w' => w'.cell? ⟨g, 4, none⟩ = some (.slice (some ⟨gs, 0, none⟩) cut cs) ∧ w'.cell? ⟨g, 0, none⟩ = some (.slice (some ad) l0.length c0) ∧ w'.cell? ⟨gs, k, none⟩ = some (.int .i64 y) ∧ w'.frozen? ⟨gs, k, none⟩ = false ∧ w'.cell? (ad.add lst.length) = some (.int .i64 xt)) (ds := [16]) #[false, false, false, false, false, false, false, false, false, false, false, false, false, false, false, false, false] (by kernel_rfl) rfl rfl ⟨(H5.out.cell 4 _ rfl), (H5.out.cell 0 _ rfl), hsc, hsf, htc⟩ (fun hHeld => ?_)
                refine pure_ (i := 0) (N := some 106) (v := ?_) (a' := ?_) #[true, false, false, false, false, false, false, false, false, false, false, false, false, false, false, false, false] rfl rfl (by kernel_rfl) (fun _ _ _ h => h) (Or.inl ⟨by rfl, ?_⟩) ?_ ?_
                rotate_left
                · intro w'
                  go_simp
                  with_reducible rfl
                rotate_left
                · simp only [Act.put, List.setIfInBounds_toArray, List.set_cons_zero, List.set_cons_succ, i64_w, i32_w]
                  rfl
                refine pure_ (i := 1) (N := some 107) (v := ?_) (a' := ?_) #[true, true, false, false, false, false, false, false, false, false, false, false, false, false, false, false, false] rfl rfl (by kernel_rfl) (fun _ _ _ h => h) (Or.inl ⟨by rfl, ?_⟩) ?_ ?_
                rotate_left
                · intro w'
                  go_simp
                  with_reducible rfl
                rotate_left
                · simp only [Act.put, List.setIfInBounds_toArray, List.set_cons_zero, List.set_cons_succ, i64_w, i32_w]
                  rfl
                refine pure_ (i := 2) (N := some 108) (v := ?_) (a' := ?_) #[true, true, true, false, false, false, false, false, false, false, false, false, false, false, false, false, false] rfl rfl (by kernel_rfl) (fun _ _ _ h => h) (Or.inl ⟨by rfl, ?_⟩) ?_ ?_
                rotate_left
                · intro w'
                  go_simp
                  with_reducible rfl
                rotate_left
                · simp only [Act.put, List.setIfInBounds_toArray, List.set_cons_zero, List.set_cons_succ, i64_w, i32_w]
                  rfl
                refine pure_ (i := 4) (N := some 110) (v := ?_) (a' := ?_) #[true, true, true, false, true, false, false, false, false, false, false, false, false, false, false, false, false] rfl rfl (by kernel_rfl) (fun _ _ _ h => h) (Or.inl ⟨by rfl, ?_⟩) ?_ ?_
                rotate_left
                · intro w'
                  go_simp
                  with_reducible rfl
                rotate_left
                · simp only [Act.put, List.setIfInBounds_toArray, List.set_cons_zero, List.set_cons_succ, i64_w, i32_w]
                  rfl
                refine pure_ (i := 7) (N := some 113) (v := ?_) (a' := ?_) #[true, true, true, false, true, false, false, true, false, false, false, false, false, false, false, false, false] rfl rfl (by kernel_rfl) (fun _ _ _ h => h) (Or.inl ⟨by rfl, ?_⟩) ?_ ?_
                rotate_left
                · intro w'
                  go_simp
                  with_reducible rfl
                rotate_left
                · simp only [Act.put, List.setIfInBounds_toArray, List.set_cons_zero, List.set_cons_succ, i64_w, i32_w]
                  rfl
                refine pure_ (i := 8) (N := some 114) (v := ?_) (a' := ?_) #[true, true, true, false, true, false, false, true, true, false, false, false, false, false, false, false, false] rfl rfl (by kernel_rfl) (fun _ _ _ h => h) (Or.inl ⟨by rfl, ?_⟩) ?_ ?_
                rotate_left
                · intro w'
                  go_simp
                  with_reducible rfl
                rotate_left
                · simp only [Act.put, List.setIfInBounds_toArray, List.set_cons_zero, List.set_cons_succ, i64_w, i32_w]
                  rfl
                refine pure_ (i := 9) (N := some 115) (v := ?_) (a' := ?_) #[true, true, true, false, true, false, false, true, true, true, false, false, false, false, false, false, false] rfl rfl (by kernel_rfl) (fun _ _ _ h => h) (Or.inl ⟨by rfl, ?_⟩) ?_ ?_
                rotate_left
                · intro w'
                  go_simp
                  with_reducible rfl
                rotate_left
                · simp only [Act.put, List.setIfInBounds_toArray, List.set_cons_zero, List.set_cons_succ, i64_w, i32_w]
                  rfl
                refine pure_ (i := 11) (N := some 117) (v := ?_) (a' := ?_) #[true, true, true, false, true, false, false, true, true, true, false, true, false, false, false, false, false] rfl rfl (by kernel_rfl) (fun _ _ _ h => h) (Or.inl ⟨by rfl, ?_⟩) ?_ ?_
                rotate_left
                · intro w'
                  go_simp
                  with_reducible rfl
                rotate_left
                · simp only [Act.put, List.setIfInBounds_toArray, List.set_cons_zero, List.set_cons_succ, i64_w, i32_w]
                  rfl
                refine take_ (i := 3) (N := some 109) (v := ?_) (a' := ?_) #[true, true, true, true, true, false, false, true, true, true, false, true, false, false, false, false, false] rfl rfl (by kernel_rfl) (fun _ _ _ h => h) (Or.inl ⟨by rfl, ?_⟩) hHeld ?_ ?_
                rotate_left
                · rintro w' ⟨s0, s1, s2, s3, s4⟩
                  go_simp
                  with_reducible rfl
                rotate_left
                · simp only [Act.put, List.setIfInBounds_toArray, List.set_cons_zero, List.set_cons_succ, i64_w, i32_w]
                  rfl
                refine pure_ (i := 5) (N := some 111) (v := ?_) (a' := ?_) #[true, true, true, true, true, true, false, true, true, true, false, true, false, false, false, false, false] rfl rfl (by kernel_rfl) (fun _ _ _ h => h) (Or.inl ⟨by rfl, ?_⟩) ?_ ?_
                rotate_left
                · intro w'
                  go_simp
                  with_reducible rfl
                rotate_left
                · simp only [Act.put, List.setIfInBounds_toArray, List.set_cons_zero, List.set_cons_succ, i64_w, i32_w]
                  rfl
                refine take_ (i := 6) (N := some 112) (v := ?_) (a' := ?_) #[true, true, true, true, true, true, true, true, true, true, false, true, false, false, false, false, false] rfl rfl (by kernel_rfl) (fun _ _ _ h => h) (Or.inl ⟨by rfl, ?_⟩) hHeld ?_ ?_
                rotate_left
                · rintro w' ⟨s0, s1, s2, s3, s4⟩
                  go_simp
                  with_reducible rfl
                rotate_left
                · simp only [Act.put, List.setIfInBounds_toArray, List.set_cons_zero, List.set_cons_succ, i64_w, i32_w]
                  rfl
                refine take_ (i := 10) (N := some 116) (v := ?_) (a' := ?_) #[true, true, true, true, true, true, true, true, true, true, true, true, false, false, false, false, false] rfl rfl (by kernel_rfl) (fun _ _ _ h => h) (Or.inl ⟨by rfl, ?_⟩) hHeld ?_ ?_
                rotate_left
                · rintro w' ⟨s0, s1, s2, s3, s4⟩
                  go_simp
                  with_reducible rfl
                rotate_left
                · simp only [Act.put, List.setIfInBounds_toArray, List.set_cons_zero, List.set_cons_succ, i64_w, i32_w]
                  rfl
                refine pure_ (i := 12) (N := some 118) (v := ?_) (a' := ?_) #[true, true, true, true, true, true, true, true, true, true, true, true, true, false, false, false, false] rfl rfl (by kernel_rfl) (fun _ _ _ h => h) (Or.inl ⟨by rfl, ?_⟩) ?_ ?_
                rotate_left
                · intro w'
                  go_simp
                  with_reducible rfl
                rotate_left
                · simp only [Act.put, List.setIfInBounds_toArray, List.set_cons_zero, List.set_cons_succ, i64_w, i32_w]
                  rfl
                refine take_ (i := 13) (N := some 119) (v := ?_) (a' := ?_) #[true, true, true, true, true, true, true, true, true, true, true, true, true, true, false, false, false] rfl rfl (by kernel_rfl) (fun _ _ _ h => h) (Or.inl ⟨by rfl, ?_⟩) hHeld ?_ ?_
                rotate_left
                · rintro w' ⟨s0, s1, s2, s3, s4⟩
                  go_simp
                  with_reducible rfl
                rotate_left
                · simp only [Act.put, List.setIfInBounds_toArray, List.set_cons_zero, List.set_cons_succ, i64_w, i32_w]
                  rfl
                refine pure_ (i := 14) (N := some 120) (v := ?_) (a' := ?_) #[true, true, true, true, true, true, true, true, true, true, true, true, true, true, true, false, false] rfl rfl (by kernel_rfl) (fun _ _ _ h => h) (Or.inl ⟨by rfl, ?_⟩) ?_ ?_
                rotate_left
                · intro w'
                  go_simp
                  with_reducible rfl
                rotate_left
                · simp only [Act.put, List.setIfInBounds_toArray, List.set_cons_zero, List.set_cons_succ, i64_w, i32_w]
                  rfl
                refine pure_ (i := 15) (N := some 121) (v := ?_) (a' := ?_) #[true, true, true, true, true, true, true, true, true, true, true, true, true, true, true, true, false] rfl rfl (by kernel_rfl) (fun _ _ _ h => h) (Or.inl ⟨by rfl, ?_⟩) ?_ ?_
                rotate_left
                · intro w'
                  go_simp
                  with_reducible rfl
                rotate_left
                · simp only [Act.put, List.setIfInBounds_toArray, List.set_cons_zero, List.set_cons_succ, i64_w, i32_w]
                  rfl
                refine last_ (i := 16) (N := none) #[true, true, true, true, true, true, true, true, true, true, true, true, true, true, true, true, true] rfl rfl (by kernel_rfl) (by decide) (fun K hK => ?_)
                have g0_ := hHeld.2.2.1
                have g1_ := hHeld.2.2.2.1
                refine skipE_ (w1 := ?_) (by rfl) rfl ?_ ?_
                rotate_left
                · go_simp
                  rfl
                intro w7 hw_
                have Hw7 := Aside0.mk (show InvG w0 w0.heap.size g (some ad) c0 l0 cut rising (lst ++ [(k : Int)]) (sums1.set k (wrap64 (y - xt))) σ5 (.slice (some ⟨gL, 0, none⟩) (lst.length + 1) cL) (.slice (some ⟨gs, 0, none⟩) cut cs) vb5 w7 from by rw [hw_]; exact (H5.out.setSum GS.out k (wrap64 (y - xt))).drew)
                clear hw_ g0_ g1_
                refine hK.out _ _ ?_
                clear hK K
                refine done_ (by kernel_rfl) ?_
                rw [HBK.out] at Hw7
                have q3 := Hw7.out.cell 3 _ rfl
                have f3 := blk_frozen Hw7.out.hg 3
                have hcap := (Kd.R_reads' Hw7.out.hl).2.1
                have HT := Aside0.mk (show RI w7 w0.heap.size g (.slice (some ⟨gL, 0, none⟩) lst.length cL) lst from by have := Kd.R_take (m := lst.length) Hw7.out.hl (by simp); rwa [List.take_left'] at this <;> rfl)
                have H8 := Aside0.mk (Hw7.out.setList HT.out Hw7.out.a1 Hw7.out.a2)
                have hlc : (lst.length : Int) ≤ (cL : Int) := by omega
                clear hHeld hsc hsf htc H5
                go_wp2_with fail
                go_roundg (cut - F - (i + 1))
                case measure => omega
                case rel => exact ⟨i + 1, by omega, by omega, by go_num, ⟨_, _, _, by rw [HS1.out]; exact H8.out⟩⟩
              · have hltz : ¬ (k : Int) < (cut : Int) := by omega
                obtain rfl : i = cut - F := by omega
                go_wp2
                go_end0
                rw [HE2.out, HFc.out]
                exact ⟨rfl, _, _, _, H1.out⟩
def giveC (t : List Int) (cut : Nat) (rising : Bool) : List Int × Int := giveM t cut rising t.length [] (List.replicate cut 0) 0 ([], -1)
def spec_l05Shared.f (l0 : List Int) (a1 : Int) (a2 : Bool) : Option (List Int × Int) := if 0 ≤ a1 ∧ a1 ≤ 1000 ∧ l0.length ≤ 1000 then some (giveC l0 a1.toNat a2) else none
set_option maxHeartbeats 1000000 in
theorem spec_l05Shared.calls (A0 : Option Addr) (c0 : Nat) (l0 : List Int) (a1 : Int) (a2 : Bool) (r1 : List Int) (r2 : Int) (w : World) (hr0 : Kd.C (Kd.int .i64) w A0 l0.length l0) (hc0 : l0.length ≤ c0) (h : spec_l05Shared.f l0 a1 a2 = some (r1, r2)) :
    Calls Try.prog 27 #[.slice A0 l0.length c0, .int .i64 a1, .bool a2] w fun e w' => ∃ v0_ : Value, e = .returned (.tuple #[v0_, .int .i64 r2]) ∧ Kd.R (Kd.int .i64) 2 w' w.heap.size (fun _ => True) v0_ r1 ∧ Below w.heap.size w w' := by
  unfold spec_l05Shared.f at h
  split at h
  · rename_i hc
    obtain ⟨cut, rfl⟩ := Int.eq_ofNat_of_zero_le hc.1
    rw [Int.toNat_natCast] at h
    have HR0 := Aside0.mk hr0
    have HC0 := Aside0.mk hc0
    have HCut := Aside0.mk (show cut ≤ 1000 by have := hc.2.1; omega)
    have HN := Aside0.mk hc.2.2
    have HG := Aside0.mk (Option.some.inj h)
    have h0 : (0 : Int) ≤ (cut : Int) := hc.1
    have HB := Aside0.mk (Below.refl w.heap.size w)
    clear hr0 hc0 h hc
    go_enter Try.func27, Try.ntmps27
    go_wp2_with (first | ((with_reducible refine gate_dst (N := 12) rfl ?_); refine Kd.R_lit (Kd.int .i64) _ 2 ?hg (N := 12) ?hd (xs := ([] : List Int)) (inner := []) (ok := fun _ => True) (okp := fun _ => True) ?hr ?hp (fun _ hk => hk) trivial (Below.refl _ _) (Nat.le_refl _) (by simp) ?_; (case hd => rfl); (case hg => rfl); (case hr => first | (go_simp; done) | (go_simp; rfl)); (case hp => exact (Reps.none _ _)); intro v12 w3 ho4 hb hg_ hnew_; clear hg_ hnew_; obtain ⟨Al, cl, el⟩ := Kd.R_slice ho4; subst el; have HO := Aside0.mk (Kd.R_lower ho4 (below_size HB.out)); have n1_ := Aside0.mk (below_step HB.out hb); clear HB; have HB := n1_; clear n1_; clear hb ho4) | ((with_reducible refine gate_dst (N := 14) rfl ?_); refine Kd.R_make (Kd.int .i64) _ 2 rfl (N := 14) rfl 24 _ _ rfl (cut : Int) rfl rfl Try.underlying24 (.int .i64 0) 8 info_i64 rfl (by decide) (by omega) 0 (ok := fun _ => True) (okp := fun _ => True) rfl (fun _ hk => hk) trivial h0 (by have := HCut.out; omega) (Below.refl _ _) (Nat.le_refl _) ?_; intro v14 w4 ho5 hb hg_ hnew_; clear hg_; rw [Int.toNat_natCast] at ho5; obtain ⟨As, cs, es⟩ := Kd.R_slice ho5; subst es; have HNW := Aside0.mk hnew_; have HS5 := Aside0.mk (Kd.R_lower ho5 (below_size HB.out)); have HO5 := Aside0.mk (Kd.R_below HO.out hb); have HLO := Aside0.mk (fun k (hk : (Value.slice Al ([] : List Int).length cl).ownBlock = some k) => ((Kd.R_bound HO.out).1 k hk).2.2.1); have n1_ := Aside0.mk (below_step HB.out hb); clear HB HO hnew_; have HB := n1_; clear n1_; clear hb ho5))
    have HI := Aside0.mk (show InvG w w.heap.size w4.heap.size A0 c0 l0 cut a2 [] (List.replicate cut 0) ([], -1) (.slice Al 0 cl) (.slice As (List.replicate cut (0 : Int)).length cs) (.slice none 0 0) (w4.alloc (.cells #[.slice A0 l0.length c0, .int .i64 (cut : Int), .bool a2, .slice Al 0 cl, .slice As (List.replicate cut (0 : Int)).length cs, .slice none 0 0, .int .i64 (-1)] 62 (0, 0))) from
      ⟨blk_new w4 _, Kd.R_alloc (Kd.R_mono (Kd.R_bound HO5.out) (fun k hk e => by have h2 : k < w4.heap.size := hk.2.2.1; omega)) _, Kd.R_alloc (Kd.R_mono (Kd.R_bound HS5.out) (fun k hk e => by have h2 : k < w4.heap.size := hk.2.2.1; omega)) _, Kd.R_nil _ _ _ _ _,
        fun k hk e => by have := HLO.out k hk; obtain ⟨b, hb1, hb2⟩ := HNW.out; rw [e] at hb1; injection hb1 with hb1; omega, fun k hk e => by simp [Value.ownBlock] at e, fun k hk e => by simp [Value.ownBlock] at e, below_alloc HB.out _, below_size HB.out⟩)
    rw [show (List.replicate cut (0 : Int)).length = cut by simp] at HI
    refine (give_calls w w4.heap.size A0 c0 l0 cut a2 HR0 HC0 HN HCut l0.length [] (List.replicate cut 0) 0 ([], -1) _ _ _ _ ⟨by simp⟩ ⟨fun y hy => absurd hy (by simp)⟩ ⟨by simp⟩ ⟨fun y hy => by rw [(List.mem_replicate.1 hy).2]; unfold wrap64; omega⟩ HI).mono ?_
    rintro e w5 ⟨rfl, vl, vs, vb, h5⟩
    have hE : giveM l0 cut a2 l0.length [] (List.replicate cut 0) 0 ([], -1) = (r1, r2) := HG.out
    rw [hE] at h5
    clear hE
    obtain ⟨Ab, cb, eb⟩ := Kd.R_slice h5.hb
    subst eb
    have c5 := h5.cell 5 _ rfl
    have c6 := h5.cell 6 _ rfl
    have HRb := Aside0.mk (Kd.R_mono h5.hb (fun k _ => trivial))
    have HB5 := Aside0.mk h5.bel
    clear h5 HI
    go_wp2_with fail
    go_quiet (fail)
    go_wp2_with fail
    go_ret2
    exact ⟨_, rfl, (by (with_reducible repeat (first | apply Kd.R_alloc | apply Kd.R_drewN | apply Kd.R_drew)); exact HRb.out), (by repeat (first | (with_reducible first | exact HB5.out | apply below_alloc | apply pw_below_drewN | apply below_drew1) | exact HB5.out))⟩
  · cases h
end Go.Proofs.Ytcibhhkpnakkgaa.Ext
namespace Go.Proofs.Ytcibhhkpnakkgaa.Q
open Go.Proofs.Ytcibhhkpnakkgaa.Ext
open Go.RowKit Go.Proofs.YtcibhhkpnakkgaaW.PrintWords Go.Proofs.YtcibhhkpnakkgaaW.PrintLast Go.Proofs.YtcibhhkpnakkgaaW.PrintMore
attribute [local go_sem] max2_int min2_int max_two min_two max_three min_three max_four min_four
set_option linter.unusedVariables false
set_option linter.unusedSimpArgs false
def spec_ShareAny.f (k : Nat) (l0 : List Int) (a1 : Int) : Option (List Int × Int × Int) := (spec_l05Cutters.f a1).bind fun t147 => ((spec_l05Times.f k l0 t147 8).bind fun t148 => (if t148 = 0 then ((spec_l05Shared.f l0 a1 false).bind fun bt149 => (some (bt149.1, bt149.2, 0))) else (some ((([] : List Int)), 0, t148))))
theorem spec_ShareAny.mono : ∀ a0 a1 k, LeO (spec_ShareAny.f k a0 a1) (spec_ShareAny.f (k + 1) a0 a1) := by
  intro a0 a1 k
  unfold spec_ShareAny.f
  repeat' first
      | (with_reducible exact spec_l05Times.mono _ _ _ _)
      | (with_reducible exact LeO.refl _)
      | (with_reducible exact LeO.none _)
      | (with_reducible refine LeO.ite ?_ ?_)
      | (with_reducible refine LeO.bind ?_ (fun _ => ?_))
      | exact spec_l05Times.mono _ _ _ _
      | exact LeO.none _
      | refine LeO.ite ?_ ?_
      | refine LeO.bind ?_ (fun _ => ?_)
set_option maxHeartbeats 8000000 in
set_option maxRecDepth 100000 in
theorem spec_ShareAny.calls (k : Nat) (A0 : Option Addr) (c0 : Nat) (l0 : List Int) (a1 : Int) (r1 : List Int) (r2 : Int) (r3 : Int) (w : World) (hr0 : Kd.C (Kd.int .i64) w A0 l0.length l0) (hc0 : l0.length ≤ c0) (h : spec_ShareAny.f k l0 a1 = some (r1, r2, r3)) :
    Calls Try.prog 10 #[.slice A0 l0.length c0, .int .i64 a1] w fun e w' => ∃ v0_ : Value, e = .returned (.tuple #[v0_, .int .i64 r2, .int .i64 r3]) ∧ Kd.R (Kd.int .i64) 2 w' w.heap.size (fun _ => True) v0_ r1 ∧ Below w.heap.size w w' := by
  have HR0 := Aside0.mk hr0
  have HC0 := Aside0.mk hc0
  clear hr0 hc0
  have HB := Aside0.mk (Below.refl w.heap.size w)
  have H : ((spec_l05Cutters.f a1).bind fun t147 => ((spec_l05Times.f k l0 t147 8).bind fun t148 => (if t148 = 0 then ((spec_l05Shared.f l0 a1 false).bind fun bt149 => (some (bt149.1, bt149.2, 0))) else (some ((([] : List Int)), 0, t148))))) = some (r1, r2, r3) := h
  clear h
  replace H := Option.bind_eq_some_iff.mp H
  obtain ⟨t147, A30, H⟩ := H
  replace H : ((spec_l05Times.f k l0 t147 8).bind fun t148 => (if t148 = 0 then ((spec_l05Shared.f l0 a1 false).bind fun bt149 => (some (bt149.1, bt149.2, 0))) else (some ((([] : List Int)), 0, t148)))) = some (r1, r2, r3) := H
  have A3 := Aside0.mk A30
  clear A30
  replace H := Option.bind_eq_some_iff.mp H
  obtain ⟨t148, A40, H⟩ := H
  replace H : (if t148 = 0 then ((spec_l05Shared.f l0 a1 false).bind fun bt149 => (some (bt149.1, bt149.2, 0))) else (some ((([] : List Int)), 0, t148))) = some (r1, r2, r3) := H
  have A4 := Aside0.mk A40
  clear A40
  by_cases c5 : t148 = 0
  · rw [if_pos c5] at H
    have c5b0 : (t148 == 0) = true := beq_iff_eq.mpr c5
    have c5b1 : (t148 != 0) = false := bne_eq_false_iff_eq.mpr c5
    clear c5
    replace H := Option.bind_eq_some_iff.mp H
    obtain ⟨⟨t149, t150⟩, A60, H⟩ := H
    replace H : (some (t149, t150, 0)) = some (r1, r2, r3) := H
    have A6 := Aside0.mk A60
    clear A60
    simp only [Option.some.injEq, Prod.mk.injEq] at H
    obtain ⟨rfl, rfl, rfl⟩ := H
    go_enter Try.func10, Try.ntmps10
    go_wp2_with (first | ((with_reducible refine gate_callee (f := 26) rfl ?_); refine goesL_ (some 12) rfl rfl Try.func26 (by kernel_rfl) rfl #[.int .i64 a1] rfl (by (try simp only [List.map_toArray, List.map_cons, List.map_nil]); first | done | rfl | (simp only [List.length_drop, List.length_take]; rfl)) ?_; (with_reducible refine (spec_l05Cutters.calls a1 t147 _ A3.out).mono ?_); rintro e w' ⟨rfl, ⟨nd, rfl⟩⟩; refine ⟨_, rfl, ?_⟩) | ((with_reducible refine gate_callee (f := 25) rfl ?_); refine goesL_ (some 13) rfl rfl Try.func25 (by kernel_rfl) rfl #[.slice A0 l0.length c0, .bool t147, .int .i64 8] rfl (by (try simp only [List.map_toArray, List.map_cons, List.map_nil]); first | done | rfl | (simp only [List.length_drop, List.length_take]; rfl)) ?_; (with_reducible refine (spec_l05Times.calls k _ _ l0 t147 8 t148 _ ?side1 ?side2 A4.out).mono ?_); (case side1 => repeat (first | exact HR0.out | (with_reducible refine Kd.C_alloc ?_ _) | (with_reducible refine Kd.C_drewN ?_ _) | (with_reducible refine Kd.C_drew ?_))); (case side2 => exact HC0.out); rintro e w' ⟨rfl, ⟨nd, rfl⟩⟩; refine ⟨_, rfl, ?_⟩) | ((with_reducible refine gate_callee (f := 27) rfl ?_); refine goesL_ (some 21) rfl rfl Try.func27 (by kernel_rfl) rfl #[.slice A0 l0.length c0, .int .i64 a1, .bool false] rfl (by (try simp only [List.map_toArray, List.map_cons, List.map_nil]); first | done | rfl | (simp only [List.length_drop, List.length_take]; rfl)) ?_; (with_reducible refine (spec_l05Shared.calls _ _ l0 a1 false t149 t150 _ ?side1 ?side2 A6.out).mono ?_); (case side1 => repeat (first | exact HR0.out | (with_reducible refine Kd.C_alloc ?_ _) | (with_reducible refine Kd.C_drewN ?_ _) | (with_reducible refine Kd.C_drew ?_))); (case side2 => exact HC0.out); rintro e w7 ⟨v151, rfl, ho0, hb⟩; refine ⟨_, rfl, ?_⟩; have n0_ := Aside0.mk (Kd.R_lower ho0 (below_size (by repeat (first | (with_reducible first | exact HB.out | apply below_alloc | apply pw_below_drewN | apply below_drew1) | exact HB.out)))); have n1_ := Aside0.mk (below_step (by repeat (first | (with_reducible first | exact HB.out | apply below_alloc | apply pw_below_drewN | apply below_drew1) | exact HB.out)) hb); clear HB; have HO152 := n0_; have HB := n1_; clear n0_ n1_; (try clear hb); (try clear hb2); (try clear hk); (try clear hi); (try clear ho0)))
    go_ret3
    exact ⟨_, by first | rfl | (simp [errW_none, errW_some] <;> rfl) | (simp [*, errW_none, errW_some] <;> rfl), by (with_reducible repeat (first | apply Kd.R_alloc | apply Kd.R_drewN | apply Kd.R_drew)); exact HO152.out, by repeat (first | (with_reducible first | exact HB.out | apply below_alloc | apply pw_below_drewN | apply below_drew1) | exact HB.out)⟩
  · rw [if_neg c5] at H
    have c5b0 : (t148 == 0) = false := beq_eq_false_iff_ne.mpr c5
    have c5b1 : (t148 != 0) = true := bne_iff_ne.mpr c5
    obtain ⟨y153, hy153⟩ : ∃ y_ : List Int, y_ = (([] : List Int)) := ⟨_, rfl⟩
    replace H : (some (y153, 0, t148)) = some (r1, r2, r3) := by first | (rw [hy153]; with_reducible exact H) | (have H2_ := (Option.bind_some _ _).symm.trans H; rw [hy153]; with_reducible exact H2_) | (have H2_ := (Option.bind_some _ _).symm.trans H; with_reducible exact H2_) | with_reducible exact H | (rw [hy153]; exact H) | exact H
    have Ny153 := Aside0.mk hy153
    clear hy153
    simp only [Option.some.injEq, Prod.mk.injEq] at H
    obtain ⟨rfl, rfl, rfl⟩ := H
    go_enter Try.func10, Try.ntmps10
    go_wp2_with (first | ((with_reducible refine gate_callee (f := 26) rfl ?_); refine goesL_ (some 12) rfl rfl Try.func26 (by kernel_rfl) rfl #[.int .i64 a1] rfl (by (try simp only [List.map_toArray, List.map_cons, List.map_nil]); first | done | rfl | (simp only [List.length_drop, List.length_take]; rfl)) ?_; (with_reducible refine (spec_l05Cutters.calls a1 t147 _ A3.out).mono ?_); rintro e w' ⟨rfl, ⟨nd, rfl⟩⟩; refine ⟨_, rfl, ?_⟩) | ((with_reducible refine gate_callee (f := 25) rfl ?_); refine goesL_ (some 13) rfl rfl Try.func25 (by kernel_rfl) rfl #[.slice A0 l0.length c0, .bool t147, .int .i64 8] rfl (by (try simp only [List.map_toArray, List.map_cons, List.map_nil]); first | done | rfl | (simp only [List.length_drop, List.length_take]; rfl)) ?_; (with_reducible refine (spec_l05Times.calls k _ _ l0 t147 8 t148 _ ?side1 ?side2 A4.out).mono ?_); (case side1 => repeat (first | exact HR0.out | (with_reducible refine Kd.C_alloc ?_ _) | (with_reducible refine Kd.C_drewN ?_ _) | (with_reducible refine Kd.C_drew ?_))); (case side2 => exact HC0.out); rintro e w' ⟨rfl, ⟨nd, rfl⟩⟩; refine ⟨_, rfl, ?_⟩) | ((with_reducible refine gate_dst (N := 16) rfl ?_); refine Kd.R_lit (Kd.int .i64) _ 2 ?hg (N := 16) ?hd (xs := ([] : List Int)) (inner := []) (ok := fun _ => True) (okp := fun _ => True) ?hr ?hp (fun _ hk => hk) trivial (Below.refl _ _) (Nat.le_refl _) (by simp) ?_; (case hd => rfl); (case hg => rfl); (case hr => first | (go_simp; done) | (go_simp; rfl)); (case hp => exact (Reps.none _ _)); intro v154 w8 ho9 hb hg_ hnew_; clear hg_ hnew_; (first | rw [← Ny153.out] at ho9 | (simp only [Int.reduceToNat] at ho9; rw [← Ny153.out] at ho9)); have n0_ := Aside0.mk (Kd.R_lower ho9 (below_size (by repeat (first | (with_reducible first | exact HB.out | apply below_alloc | apply pw_below_drewN | apply below_drew1) | exact HB.out)))); have n1_ := Aside0.mk (below_step (by repeat (first | (with_reducible first | exact HB.out | apply below_alloc | apply pw_below_drewN | apply below_drew1) | exact HB.out)) hb); clear HB; have HO155 := n0_; have HB := n1_; clear n0_ n1_; clear hb ho9))
    go_ret3
    exact ⟨_, by first | rfl | (simp [errW_none, errW_some] <;> rfl) | (simp [*, errW_none, errW_some] <;> rfl), by (with_reducible repeat (first | apply Kd.R_alloc | apply Kd.R_drewN | apply Kd.R_drew)); exact HO155.out, by repeat (first | (with_reducible first | exact HB.out | apply below_alloc | apply pw_below_drewN | apply below_drew1) | exact HB.out)⟩
end Go.Proofs.Ytcibhhkpnakkgaa.Q
