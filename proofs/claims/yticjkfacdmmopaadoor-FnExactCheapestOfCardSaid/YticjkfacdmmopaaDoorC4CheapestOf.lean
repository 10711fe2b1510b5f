/- Contracts and plain laws of functions of the given program; no conditions beside those in the theorems. -/
import Derived.Test.YticjkfacdmmopaaDoorC3CheapestOf
import Derived.Test.YticjkfacdmmopaaDoorC0CheapestOf
import Derived.Deep.MidRow
import Derived.WalkSpells
namespace Go.Proofs.YticjkfacdmmopaaDoor.Ext
end Go.Proofs.YticjkfacdmmopaaDoor.Ext
namespace Go.Proofs.YticjkfacdmmopaaDoor.Q
open Go.Proofs.YticjkfacdmmopaaDoor.Ext
open Go.RowKit Go.Proofs.YticjkfacdmmopaaDoorW.PrintWords Go.Proofs.YticjkfacdmmopaaDoorW.PrintLast Go.Proofs.YticjkfacdmmopaaDoorW.PrintMore
attribute [local go_sem] max2_int min2_int max_two min_two max_three min_three max_four min_four
set_option linter.unusedVariables false
set_option linter.unusedSimpArgs false
def spec_l01Face.f (s0_0 s0_1 s0_2 s0_3 s0_4 s0_5 s0_6 s0_7 s0_8 s0_9 s0_10 s0_11 s0_12 s0_13 s0_14 s0_15 s0_16 s0_17 s0_18 s0_19 s0_20 s0_21 s0_22 s0_23 s0_24 s0_25 s0_26 s0_27 : Int) (s0_28 : List (S137)) : Option (Bool) := if (s0_28.length : Int) ≤ 12 then ((spec_l01Shape.f s0_0 s0_1 s0_2 s0_3 s0_4 s0_5 s0_6 s0_7 s0_8 s0_9 s0_10 s0_11 s0_12 s0_13 s0_14 s0_15 s0_16 s0_17 s0_18 s0_19 s0_20 s0_21 s0_22 s0_23 s0_24 s0_25 s0_26 s0_27 s0_28).bind fun t105 => (some t105)) else (some false)
set_option maxHeartbeats 8000000 in
set_option maxRecDepth 100000 in
theorem spec_l01Face.calls (g : Nat) (s0_0 s0_1 s0_2 s0_3 s0_4 s0_5 s0_6 s0_7 s0_8 s0_9 s0_10 s0_11 s0_12 s0_13 s0_14 s0_15 s0_16 s0_17 s0_18 s0_19 s0_20 s0_21 s0_22 s0_23 s0_24 s0_25 s0_26 s0_27 : Int) (s0_28 : List (S137)) (r : Bool) (w0 w : World) (hI : IsS32 w0 w g s0_0 s0_1 s0_2 s0_3 s0_4 s0_5 s0_6 s0_7 s0_8 s0_9 s0_10 s0_11 s0_12 s0_13 s0_14 s0_15 s0_16 s0_17 s0_18 s0_19 s0_20 s0_21 s0_22 s0_23 s0_24 s0_25 s0_26 s0_27 s0_28) (hB : Below w0.heap.size w0 w) (h : spec_l01Face.f s0_0 s0_1 s0_2 s0_3 s0_4 s0_5 s0_6 s0_7 s0_8 s0_9 s0_10 s0_11 s0_12 s0_13 s0_14 s0_15 s0_16 s0_17 s0_18 s0_19 s0_20 s0_21 s0_22 s0_23 s0_24 s0_25 s0_26 s0_27 s0_28 = some r) :
    Calls Tryd.prog 62 #[.pointer (some ⟨g, 0, none⟩)] w fun e w' => e = .returned (.bool r) ∧ IsS32 w0 w' g s0_0 s0_1 s0_2 s0_3 s0_4 s0_5 s0_6 s0_7 s0_8 s0_9 s0_10 s0_11 s0_12 s0_13 s0_14 s0_15 s0_16 s0_17 s0_18 s0_19 s0_20 s0_21 s0_22 s0_23 s0_24 s0_25 s0_26 s0_27 s0_28 ∧ Below w0.heap.size w0 w' ∧ KeepBut w w' g none := by
  have HI0 := Aside0.mk hI
  have HK := Aside0.mk (KeepBut.refl w g none)
  have HL := Aside0.mk hB.size
  clear hI
  have HW0 := Aside0.mk hB.size
  have HB := Aside0.mk hB
  clear hB
  have H : (if (s0_28.length : Int) ≤ 12 then ((spec_l01Shape.f s0_0 s0_1 s0_2 s0_3 s0_4 s0_5 s0_6 s0_7 s0_8 s0_9 s0_10 s0_11 s0_12 s0_13 s0_14 s0_15 s0_16 s0_17 s0_18 s0_19 s0_20 s0_21 s0_22 s0_23 s0_24 s0_25 s0_26 s0_27 s0_28).bind fun t105 => (some t105)) else (some false)) = some r := h
  clear h
  by_cases c2 : (s0_28.length : Int) ≤ 12
  · rw [if_pos c2] at H
    have c2b0 : decide ((s0_28.length : Int) ≤ 12) = true := decide_eq_true c2
    have c2b1 : decide (s0_28.length ≤ 12) = true := decide_eq_true (by omega)
    clear c2
    replace H := Option.bind_eq_some_iff.mp H
    obtain ⟨t105, A30, H⟩ := H
    replace H : (some t105) = some r := H
    have A3 := Aside0.mk A30
    clear A30
    obtain rfl := Option.some.inj H
    obtain ⟨ASz4_28, cSz4_28, HGz4, hgz4, HSz4_28⟩ := HI0.out
    have hcz4_26 := cellS32_26 HGz4
    have hcz4_27 := cellS32_27 HGz4
    have hcz4_28 := cellS32_28 HGz4
    clear HGz4 hgz4
    go_enter Tryd.func62, Tryd.ntmps62
    go_wp2_with (first | (go_at_call 117; (with_reducible refine (spec_l01Shape.calls g s0_0 s0_1 s0_2 s0_3 s0_4 s0_5 s0_6 s0_7 s0_8 s0_9 s0_10 s0_11 s0_12 s0_13 s0_14 s0_15 s0_16 s0_17 s0_18 s0_19 s0_20 s0_21 s0_22 s0_23 s0_24 s0_25 s0_26 s0_27 s0_28 t105 w0 _ ?side1 ?side2 A3.out).mono ?_); (case side1 => repeat (first | (with_reducible first | exact HI0.out | apply IsS32.alloc | apply IsS32.drewN | apply IsS32.drew) | exact HI0.out)); (case side2 => repeat (first | (with_reducible first | exact HB.out | apply below_alloc | apply pw_below_drewN | apply below_drew1 | refine below_set ?_ (IsS32.ge HI0.out)) | exact HB.out)); rintro e w5 ⟨rfl, hi, hb, hk⟩; have n0_ := Aside0.mk (KeepBut.trans (by repeat (first | (with_reducible first | exact HK.out | apply KeepBut.set_ | apply keep_drewN | apply keep_drew | apply keep_alloc) | exact HK.out)) hk (.inl rfl)); have n1_ := Aside0.mk (hb); have n2_ := Aside0.mk (hi); clear HK; clear HB; clear HI0; have HK := n0_; have HB := n1_; have HI0 := n2_; clear n0_ n1_ n2_; (try clear hb); (try clear hb2); (try clear hk); (try clear hi)))
    go_ret
    exact ⟨by first | rfl | (simp [errW_none, errW_some] <;> rfl) | (simp [*, errW_none, errW_some] <;> rfl), by repeat (first | (with_reducible first | exact HI0.out | apply IsS32.alloc | apply IsS32.drewN | apply IsS32.drew) | exact HI0.out), by repeat (first | (with_reducible first | exact HB.out | apply below_alloc | apply pw_below_drewN | apply below_drew1 | refine below_set ?_ (IsS32.ge HI0.out)) | exact HB.out), by repeat (first | (with_reducible first | exact HK.out | apply KeepBut.set_ | apply keep_drewN | apply keep_drew | apply keep_alloc) | exact HK.out)⟩
  · rw [if_neg c2] at H
    have c2b0 : decide ((s0_28.length : Int) ≤ 12) = false := decide_eq_false c2
    have c2b1 : decide (s0_28.length ≤ 12) = false := decide_eq_false (by omega)
    clear c2
    obtain rfl := Option.some.inj H
    obtain ⟨ASz6_28, cSz6_28, HGz6, hgz6, HSz6_28⟩ := HI0.out
    have hcz6_26 := cellS32_26 HGz6
    have hcz6_27 := cellS32_27 HGz6
    have hcz6_28 := cellS32_28 HGz6
    clear HGz6 hgz6
    go_enter Tryd.func62, Tryd.ntmps62
    go_wp2
    go_ret
    exact ⟨by first | rfl | (simp [errW_none, errW_some] <;> rfl) | (simp [*, errW_none, errW_some] <;> rfl), by repeat (first | (with_reducible first | exact HI0.out | apply IsS32.alloc | apply IsS32.drewN | apply IsS32.drew) | exact HI0.out), by repeat (first | (with_reducible first | exact HB.out | apply below_alloc | apply pw_below_drewN | apply below_drew1 | refine below_set ?_ (IsS32.ge HI0.out)) | exact HB.out), by repeat (first | (with_reducible first | exact HK.out | apply KeepBut.set_ | apply keep_drewN | apply keep_drew | apply keep_alloc) | exact HK.out)⟩
def spec_l01Text.l0 : Nat → ByteArray → Int → Option (Bool)
  | 0, _, _ => none
  | k + 1, x0, x3 => if x3 < (x0.size : Int) then (if 0 ≤ x3 then (if (bt x0 x3) = 32 then (if x3 = 0 then (some false) else (if x3 = (wrap64 ((x0.size : Int) - 1)) then (some false) else (if 0 ≤ (wrap64 (x3 - 1)) then (if (wrap64 (x3 - 1)) < (x0.size : Int) then (if (bt x0 (wrap64 (x3 - 1))) = 32 then (some false) else (spec_l01Text.l0 k x0 (wrap64 (x3 + 1)))) else (none)) else (none)))) else ((spec_l01Letter.f (bt x0 x3)).bind fun t106 => (if t106 = true then (spec_l01Text.l0 k x0 (wrap64 (x3 + 1))) else (some false)))) else (none)) else (some (decide ((x0.size : Int) ≤ 60)))
def spec_l01Text.f (k : Nat) (a0 : ByteArray) : Option (Bool) := spec_l01Text.l0 k a0 0
theorem spec_l01Text.mono_l : ∀ k, (∀ y0 y1, LeO (spec_l01Text.l0 k y0 y1) (spec_l01Text.l0 (k + 1) y0 y1))
  | 0 => fun _ _ r h => by simp [spec_l01Text.l0] at h
  | k + 1 => by
    have ih0 := spec_l01Text.mono_l k
    · intro y0 y1
      unfold spec_l01Text.l0
      repeat' first
      | (with_reducible exact ih0 _ _)
      | (with_reducible exact LeO.refl _)
      | (with_reducible exact LeO.none _)
      | (with_reducible refine LeO.ite ?_ ?_)
      | (with_reducible refine LeO.bind ?_ (fun _ => ?_))
      | exact ih0 _ _
      | exact LeO.none _
      | refine LeO.ite ?_ ?_
      | refine LeO.bind ?_ (fun _ => ?_)
theorem spec_l01Text.mono : ∀ a0 k, LeO (spec_l01Text.f k a0) (spec_l01Text.f (k + 1) a0) := by
  intro a0 k
  have ih0 := spec_l01Text.mono_l k
  unfold spec_l01Text.f
  repeat' first
      | (with_reducible exact ih0 _ _)
      | (with_reducible exact LeO.refl _)
      | (with_reducible exact LeO.none _)
      | (with_reducible refine LeO.ite ?_ ?_)
      | (with_reducible refine LeO.bind ?_ (fun _ => ?_))
      | exact ih0 _ _
      | exact LeO.none _
      | refine LeO.ite ?_ ?_
      | refine LeO.bind ?_ (fun _ => ?_)
set_option maxHeartbeats 8000000 in
set_option maxRecDepth 100000 in
theorem spec_l01Text.calls (k : Nat) (a0 : ByteArray) (r : Bool) (w : World) (h : spec_l01Text.f k a0 = some r) :
    Calls Tryd.prog 63 #[.string a0] w fun e w' => e = .returned (.bool r) ∧ Drawn0 w w' := by
  have H : (spec_l01Text.l0 k a0 0) = some r := h
  clear h
  have H' := Aside0.mk H
  clear H
  go_enter Tryd.func63, Tryd.ntmps63
  go_wp2
  go_loopg [3] k (fun kq v3 w' => ∃ (x3_1 : Int), v3 = .int .i64 x3_1 ∧ Aside0 (spec_l01Text.l0 kq a0 x3_1 = some r) ∧ Aside0 (kq ≤ k) ∧ Drawn0 w w')
  case atStart => exact ⟨(0), (by first | rfl | (simp; done) | (simp [*]; done)), H', ⟨Nat.le_refl _⟩, by repeat (first | exact Drawn0.refl _ | apply Drawn0.step)⟩
  case round =>
    clear H'
    obtain ⟨x3_1, rfl, HA, HK1, ⟨m1, rfl⟩⟩ := hrel
    cases gk with
    | zero => exact absurd HA.out (by simp [spec_l01Text.l0])
    | succ k1 =>
      have H := HA.out
      clear HA
      simp only [spec_l01Text.l0] at H
      by_cases c2 : x3_1 < (a0.size : Int)
      · rw [if_pos c2] at H
        have c2b0 : decide (x3_1 < (a0.size : Int)) = true := decide_eq_true c2
        clear c2
        by_cases c3 : 0 ≤ x3_1
        · rw [if_pos c3] at H
          have c3b0 : decide (0 ≤ x3_1) = true := decide_eq_true c3
          clear c3
          by_cases c5 : (bt a0 x3_1) = 32
          · rw [if_pos c5] at H
            have c5b0 : ((bt a0 x3_1) == 32) = true := beq_iff_eq.mpr c5
            have c5b1 : ((bt a0 x3_1) != 32) = false := bne_eq_false_iff_eq.mpr c5
            clear c5
            by_cases c6 : x3_1 = 0
            · rw [if_pos c6] at H
              have c6b0 : (x3_1 == 0) = true := beq_iff_eq.mpr c6
              have c6b1 : (x3_1 != 0) = false := bne_eq_false_iff_eq.mpr c6
              clear c6
              obtain rfl := Option.some.inj H
              have p4 : 0 ≤ (x3_1 : Int) := of_decide_eq_true (by first | (with_reducible assumption) | assumption)
              have q4 : x3_1 < (a0.size : Int) := of_decide_eq_true (by first | (with_reducible assumption) | assumption)
              have hx4 := bt_at a0 x3_1
              replace p4 := eq_true p4
              replace q4 := eq_true q4
              go_wp2
              go_ret
              exact ⟨by first | rfl | (simp; done) | (simp [*]; done), by repeat (first | exact Drawn0.refl _ | apply Drawn0.step)⟩
            · rw [if_neg c6] at H
              have c6b0 : (x3_1 == 0) = false := beq_eq_false_iff_ne.mpr c6
              have c6b1 : (x3_1 != 0) = true := bne_iff_ne.mpr c6
              by_cases c7 : x3_1 = (wrap64 ((a0.size : Int) - 1))
              · rw [if_pos c7] at H
                have c7b0 : (x3_1 == (wrap64 ((a0.size : Int) - 1))) = true := beq_iff_eq.mpr c7
                have c7b1 : (x3_1 != (wrap64 ((a0.size : Int) - 1))) = false := bne_eq_false_iff_eq.mpr c7
                clear c7
                obtain rfl := Option.some.inj H
                have p4 : 0 ≤ (x3_1 : Int) := of_decide_eq_true (by first | (with_reducible assumption) | assumption)
                have q4 : x3_1 < (a0.size : Int) := of_decide_eq_true (by first | (with_reducible assumption) | assumption)
                have hx4 := bt_at a0 x3_1
                replace p4 := eq_true p4
                replace q4 := eq_true q4
                go_wp2
                go_ret
                exact ⟨by first | rfl | (simp; done) | (simp [*]; done), by repeat (first | exact Drawn0.refl _ | apply Drawn0.step)⟩
              · rw [if_neg c7] at H
                have c7b0 : (x3_1 == (wrap64 ((a0.size : Int) - 1))) = false := beq_eq_false_iff_ne.mpr c7
                have c7b1 : (x3_1 != (wrap64 ((a0.size : Int) - 1))) = true := bne_iff_ne.mpr c7
                obtain ⟨ji8, hji8⟩ : ∃ j_ : Int, (wrap64 (x3_1 - 1)) = j_ := ⟨_, rfl⟩
                replace H : (if 0 ≤ (ji8) then (if (ji8) < (a0.size : Int) then (if (bt a0 (ji8)) = 32 then (some false) else (spec_l01Text.l0 k1 a0 (wrap64 (x3_1 + 1)))) else (none)) else (none)) = some r := by first | (rw [hji8] at H; exact H) | (simp only [hji8] at H ⊢; exact H)
                have hji8w : (IntKind.i64.wrap (x3_1 - 1)) = ji8 := (i64_w _).trans hji8
                by_cases c9 : 0 ≤ (ji8)
                · rw [if_pos c9] at H
                  have c9b0 : decide (0 ≤ (ji8)) = true := decide_eq_true c9
                  clear c9
                  by_cases c10 : (ji8) < (a0.size : Int)
                  · rw [if_pos c10] at H
                    have c10b0 : decide ((ji8) < (a0.size : Int)) = true := decide_eq_true c10
                    clear c10
                    by_cases c12 : (bt a0 (ji8)) = 32
                    · rw [if_pos c12] at H
                      have c12b0 : ((bt a0 (ji8)) == 32) = true := beq_iff_eq.mpr c12
                      have c12b1 : ((bt a0 (ji8)) != 32) = false := bne_eq_false_iff_eq.mpr c12
                      clear c12
                      obtain rfl := Option.some.inj H
                      have p4 : 0 ≤ (x3_1 : Int) := of_decide_eq_true (by first | (with_reducible assumption) | assumption)
                      have q4 : x3_1 < (a0.size : Int) := of_decide_eq_true (by first | (with_reducible assumption) | assumption)
                      have hx4 := bt_at a0 x3_1
                      replace p4 := eq_true p4
                      replace q4 := eq_true q4
                      have p11 : 0 ≤ ((ji8) : Int) := of_decide_eq_true (by first | (with_reducible assumption) | assumption)
                      have q11 : (ji8) < (a0.size : Int) := of_decide_eq_true (by first | (with_reducible assumption) | assumption)
                      have hx11 := bt_at a0 (ji8)
                      replace p11 := eq_true p11
                      replace q11 := eq_true q11
                      go_wp2
                      go_ret
                      exact ⟨by first | rfl | (simp; done) | (simp only [← hji8] <;> (first | rfl | simp)) | (simp [*]; done), by repeat (first | exact Drawn0.refl _ | apply Drawn0.step)⟩
                    · rw [if_neg c12] at H
                      have c12b0 : ((bt a0 (ji8)) == 32) = false := beq_eq_false_iff_ne.mpr c12
                      have c12b1 : ((bt a0 (ji8)) != 32) = true := bne_iff_ne.mpr c12
                      have H' := Aside0.mk H
                      clear H
                      have p4 : 0 ≤ (x3_1 : Int) := of_decide_eq_true (by first | (with_reducible assumption) | assumption)
                      have q4 : x3_1 < (a0.size : Int) := of_decide_eq_true (by first | (with_reducible assumption) | assumption)
                      have hx4 := bt_at a0 x3_1
                      replace p4 := eq_true p4
                      replace q4 := eq_true q4
                      have p11 : 0 ≤ ((ji8) : Int) := of_decide_eq_true (by first | (with_reducible assumption) | assumption)
                      have q11 : (ji8) < (a0.size : Int) := of_decide_eq_true (by first | (with_reducible assumption) | assumption)
                      have hx11 := bt_at a0 (ji8)
                      replace p11 := eq_true p11
                      replace q11 := eq_true q11
                      go_wp2
                      go_roundg k1
                      case measure => have := HK1.out; omega
                      case rel => exact ⟨(wrap64 (x3_1 + 1)), (by first | rfl | (simp; done) | (simp [*]; done)), H', ⟨by have := HK1.out; omega⟩, by repeat (first | exact Drawn0.refl _ | apply Drawn0.step)⟩
                  · rw [if_neg c10] at H
                    exact absurd H (by simp)
                · rw [if_neg c9] at H
                  exact absurd H (by simp)
          · rw [if_neg c5] at H
            have c5b0 : ((bt a0 x3_1) == 32) = false := beq_eq_false_iff_ne.mpr c5
            have c5b1 : ((bt a0 x3_1) != 32) = true := bne_iff_ne.mpr c5
            replace H := Option.bind_eq_some_iff.mp H
            obtain ⟨t106, A140, H⟩ := H
            replace H : (if t106 = true then (spec_l01Text.l0 k1 a0 (wrap64 (x3_1 + 1))) else (some false)) = some r := H
            have A14 := Aside0.mk A140
            clear A140
            by_cases c15 : t106 = true
            · subst c15
              have H1 : (spec_l01Text.l0 k1 a0 (wrap64 (x3_1 + 1))) = some r := by rw [if_pos rfl] at H; exact H
              clear H
              have H := H1
              clear H1
              have H' := Aside0.mk H
              clear H
              have p4 : 0 ≤ (x3_1 : Int) := of_decide_eq_true (by first | (with_reducible assumption) | assumption)
              have q4 : x3_1 < (a0.size : Int) := of_decide_eq_true (by first | (with_reducible assumption) | assumption)
              have hx4 := bt_at a0 x3_1
              replace p4 := eq_true p4
              replace q4 := eq_true q4
              have p13 : 0 ≤ (x3_1 : Int) := of_decide_eq_true (by first | (with_reducible assumption) | assumption)
              have q13 : x3_1 < (a0.size : Int) := of_decide_eq_true (by first | (with_reducible assumption) | assumption)
              have hx13 := bt_at a0 x3_1
              replace p13 := eq_true p13
              replace q13 := eq_true q13
              go_wp2_with (first | ((with_reducible refine gate_callee (f := 118) rfl ?_); refine goesL_ (some 33) rfl rfl Tryd.func118 (by kernel_rfl) rfl #[.int .u8 (bt a0 x3_1)] rfl (by (try simp only [List.map_toArray, List.map_cons, List.map_nil]); first | done | rfl | (simp only [List.length_drop, List.length_take]; rfl)) ?_; (with_reducible refine (spec_l01Letter.calls (bt a0 x3_1) true _ A14.out).mono ?_); rintro e w' ⟨rfl, ⟨nd, rfl⟩⟩; refine ⟨_, rfl, ?_⟩))
              go_roundg k1
              case measure => have := HK1.out; omega
              case rel => exact ⟨(wrap64 (x3_1 + 1)), (by first | rfl | (simp; done) | (simp [*]; done)), H', ⟨by have := HK1.out; omega⟩, by repeat (first | exact Drawn0.refl _ | apply Drawn0.step)⟩
            · replace c15 := Bool.eq_false_iff.mpr c15
              subst c15
              have H1 : (some false) = some r := by rw [if_neg (show ¬ (false = true) by decide)] at H; exact H
              clear H
              have H := H1
              clear H1
              obtain rfl := Option.some.inj H
              have p4 : 0 ≤ (x3_1 : Int) := of_decide_eq_true (by first | (with_reducible assumption) | assumption)
              have q4 : x3_1 < (a0.size : Int) := of_decide_eq_true (by first | (with_reducible assumption) | assumption)
              have hx4 := bt_at a0 x3_1
              replace p4 := eq_true p4
              replace q4 := eq_true q4
              have p13 : 0 ≤ (x3_1 : Int) := of_decide_eq_true (by first | (with_reducible assumption) | assumption)
              have q13 : x3_1 < (a0.size : Int) := of_decide_eq_true (by first | (with_reducible assumption) | assumption)
              have hx13 := bt_at a0 x3_1
              replace p13 := eq_true p13
              replace q13 := eq_true q13
              go_wp2_with (first | ((with_reducible refine gate_callee (f := 118) rfl ?_); refine goesL_ (some 33) rfl rfl Tryd.func118 (by kernel_rfl) rfl #[.int .u8 (bt a0 x3_1)] rfl (by (try simp only [List.map_toArray, List.map_cons, List.map_nil]); first | done | rfl | (simp only [List.length_drop, List.length_take]; rfl)) ?_; (with_reducible refine (spec_l01Letter.calls (bt a0 x3_1) false _ A14.out).mono ?_); rintro e w' ⟨rfl, ⟨nd, rfl⟩⟩; refine ⟨_, rfl, ?_⟩))
              go_ret
              exact ⟨by first | rfl | (simp; done) | (simp [*]; done), by repeat (first | exact Drawn0.refl _ | apply Drawn0.step)⟩
        · rw [if_neg c3] at H
          exact absurd H (by simp)
      · rw [if_neg c2] at H
        have c2b0 : decide (x3_1 < (a0.size : Int)) = false := decide_eq_false c2
        clear c2
        obtain rfl := Option.some.inj H
        go_wp2
        go_ret
        exact ⟨by first | rfl | (simp; done) | (simp [*]; done), by repeat (first | exact Drawn0.refl _ | apply Drawn0.step)⟩
end Go.Proofs.YticjkfacdmmopaaDoor.Q
namespace Go.Proofs.YticjkfacdmmopaaDoor.Ext
end Go.Proofs.YticjkfacdmmopaaDoor.Ext
namespace Go.Proofs.YticjkfacdmmopaaDoor.Q
open Go.Proofs.YticjkfacdmmopaaDoor.Ext
open Go.RowKit Go.Proofs.YticjkfacdmmopaaDoorW.PrintWords Go.Proofs.YticjkfacdmmopaaDoorW.PrintLast Go.Proofs.YticjkfacdmmopaaDoorW.PrintMore
attribute [local go_sem] max2_int min2_int max_two min_two max_three min_three max_four min_four
set_option linter.unusedVariables false
set_option linter.unusedSimpArgs false
end Go.Proofs.YticjkfacdmmopaaDoor.Q
namespace Go.Proofs.YticjkfacdmmopaaDoor.Ext
end Go.Proofs.YticjkfacdmmopaaDoor.Ext
namespace Go.Proofs.YticjkfacdmmopaaDoor.Q
open Go.Proofs.YticjkfacdmmopaaDoor.Ext
open Go.RowKit Go.Proofs.YticjkfacdmmopaaDoorW.PrintWords Go.Proofs.YticjkfacdmmopaaDoorW.PrintLast Go.Proofs.YticjkfacdmmopaaDoorW.PrintMore
attribute [local go_sem] max2_int min2_int max_two min_two max_three min_three max_four min_four
set_option linter.unusedVariables false
set_option linter.unusedSimpArgs false
end Go.Proofs.YticjkfacdmmopaaDoor.Q
namespace Go.Proofs.YticjkfacdmmopaaDoor.Ext
end Go.Proofs.YticjkfacdmmopaaDoor.Ext
namespace Go.Proofs.YticjkfacdmmopaaDoor.Q
open Go.Proofs.YticjkfacdmmopaaDoor.Ext
open Go.RowKit Go.Proofs.YticjkfacdmmopaaDoorW.PrintWords Go.Proofs.YticjkfacdmmopaaDoorW.PrintLast Go.Proofs.YticjkfacdmmopaaDoorW.PrintMore
attribute [local go_sem] max2_int min2_int max_two min_two max_three min_three max_four min_four
set_option linter.unusedVariables false
set_option linter.unusedSimpArgs false
end Go.Proofs.YticjkfacdmmopaaDoor.Q
namespace Go.Proofs.YticjkfacdmmopaaDoor.Ext
end Go.Proofs.YticjkfacdmmopaaDoor.Ext
namespace Go.Proofs.YticjkfacdmmopaaDoor.Q
open Go.Proofs.YticjkfacdmmopaaDoor.Ext
open Go.RowKit Go.Proofs.YticjkfacdmmopaaDoorW.PrintWords Go.Proofs.YticjkfacdmmopaaDoorW.PrintLast Go.Proofs.YticjkfacdmmopaaDoorW.PrintMore
attribute [local go_sem] max2_int min2_int max_two min_two max_three min_three max_four min_four
set_option linter.unusedVariables false
set_option linter.unusedSimpArgs false
def impl_ValidFace.f (a0_0 a0_1 a0_2 a0_3 a0_4 a0_5 a0_6 a0_7 a0_8 a0_9 a0_10 a0_11 a0_12 a0_13 a0_14 a0_15 a0_16 a0_17 a0_18 a0_19 a0_20 a0_21 a0_22 a0_23 a0_24 a0_25 a0_26 a0_27 : Int) (l0_28 : List (S137)) : Option (Bool) := (impl_Face_isFace.f a0_0 a0_1 a0_2 a0_3 a0_4 a0_5 a0_6 a0_7 a0_8 a0_9 a0_10 a0_11 a0_12 a0_13 a0_14 a0_15 a0_16 a0_17 a0_18 a0_19 a0_20 a0_21 a0_22 a0_23 a0_24 a0_25 a0_26 a0_27 l0_28).bind fun t143 => (if t143 = true then (some (decide ((l0_28.length : Int) ≤ 12))) else (some false))
set_option maxHeartbeats 8000000 in
set_option maxRecDepth 100000 in
theorem impl_ValidFace.calls (a0_0 a0_1 a0_2 a0_3 a0_4 a0_5 a0_6 a0_7 a0_8 a0_9 a0_10 a0_11 a0_12 a0_13 a0_14 a0_15 a0_16 a0_17 a0_18 a0_19 a0_20 a0_21 a0_22 a0_23 a0_24 a0_25 a0_26 a0_27 : Int) (A0_28 : Option Addr) (c0_28 : Nat) (l0_28 : List (S137)) (r : Bool) (w : World) (hr0_28 : Kd.C k137 w A0_28 l0_28.length l0_28) (hc0_28 : l0_28.length ≤ c0_28) (h : impl_ValidFace.f a0_0 a0_1 a0_2 a0_3 a0_4 a0_5 a0_6 a0_7 a0_8 a0_9 a0_10 a0_11 a0_12 a0_13 a0_14 a0_15 a0_16 a0_17 a0_18 a0_19 a0_20 a0_21 a0_22 a0_23 a0_24 a0_25 a0_26 a0_27 l0_28 = some r) :
    Calls Tryd.prog 68 #[.agg #[.int .i8 a0_0, .int .i8 a0_1, .int .i8 a0_2, .int .i8 a0_3, .int .i8 a0_4, .int .i8 a0_5, .int .i8 a0_6, .int .i8 a0_7, .int .i8 a0_8, .int .i8 a0_9, .int .i8 a0_10, .int .i8 a0_11, .int .i8 a0_12, .int .i8 a0_13, .int .i8 a0_14, .int .i8 a0_15, .int .i8 a0_16, .int .i8 a0_17, .int .i8 a0_18, .int .i8 a0_19, .int .i8 a0_20, .int .i8 a0_21, .int .i8 a0_22, .int .i8 a0_23, .int .i8 a0_24, .int .i8 a0_25, .int .i8 a0_26, .int .i8 a0_27, .slice A0_28 l0_28.length c0_28]] w fun e w' => e = .returned (.bool r) ∧ Below w.heap.size w w' := by
  have hu32 := Tryd.underlying32
  have HR0_28 := Aside0.mk hr0_28
  have HC0_28 := Aside0.mk hc0_28
  clear hr0_28 hc0_28
  have HB := Aside0.mk (Below.refl w.heap.size w)
  have H : ((impl_Face_isFace.f a0_0 a0_1 a0_2 a0_3 a0_4 a0_5 a0_6 a0_7 a0_8 a0_9 a0_10 a0_11 a0_12 a0_13 a0_14 a0_15 a0_16 a0_17 a0_18 a0_19 a0_20 a0_21 a0_22 a0_23 a0_24 a0_25 a0_26 a0_27 l0_28).bind fun t143 => (if t143 = true then (some (decide ((l0_28.length : Int) ≤ 12))) else (some false))) = some r := h
  clear h
  replace H := Option.bind_eq_some_iff.mp H
  obtain ⟨t143, A20, H⟩ := H
  replace H : (if t143 = true then (some (decide ((l0_28.length : Int) ≤ 12))) else (some false)) = some r := H
  have A2 := Aside0.mk A20
  clear A20
  by_cases c3 : t143 = true
  · subst c3
    have H1 : (some (decide ((l0_28.length : Int) ≤ 12))) = some r := by rw [if_pos rfl] at H; exact H
    clear H
    have H := H1
    clear H1
    obtain rfl := Option.some.inj H
    go_enter Tryd.func68, Tryd.ntmps68
    go_wp2_with (first | ((with_reducible refine gate_dst (N := 1) rfl ?_); (try (refine gate_guard (by rfl) ?_; dsimp only)); refine box_event ?hg (N := 1) ?hd (cs := #[.int .i8 a0_0, .int .i8 a0_1, .int .i8 a0_2, .int .i8 a0_3, .int .i8 a0_4, .int .i8 a0_5, .int .i8 a0_6, .int .i8 a0_7, .int .i8 a0_8, .int .i8 a0_9, .int .i8 a0_10, .int .i8 a0_11, .int .i8 a0_12, .int .i8 a0_13, .int .i8 a0_14, .int .i8 a0_15, .int .i8 a0_16, .int .i8 a0_17, .int .i8 a0_18, .int .i8 a0_19, .int .i8 a0_20, .int .i8 a0_21, .int .i8 a0_22, .int .i8 a0_23, .int .i8 a0_24, .int .i8 a0_25, .int .i8 a0_26, .int .i8 a0_27, .slice A0_28 l0_28.length c0_28]) (t := 32) ?hr ?_; (case hd => rfl); (case hg => rfl); (case hr => first | (go_simp; done) | (go_simp; rfl)); intro gb142 hg w4 hbox hb; have n0_ := Aside0.mk (below_step (by repeat (first | (with_reducible first | exact HB.out | apply below_alloc | apply pw_below_drewN | apply below_drew1) | exact HB.out)) hb); have n1_ := Aside0.mk (hbox); have n2_ := Aside0.mk ((by rw [hg]; exact (below_size (by repeat (first | (with_reducible first | exact HB.out | apply below_alloc | apply pw_below_drewN | apply below_drew1) | exact HB.out))) : w.heap.size ≤ gb142)); have n3_ := Aside0.mk ((by rw [hg]; exact (below_size (by repeat (first | (with_reducible first | exact HB.out | apply below_alloc | apply pw_below_drewN | apply below_drew1) | exact HB.out))) : w.heap.size ≤ gb142)); clear HB; have HB := n0_; have BK142 := n1_; have GW142 := n2_; have GE142 := n3_; clear n0_ n1_ n2_ n3_; clear hb hbox hg) | ((with_reducible refine gate_dst (N := 3) rfl ?_); (try (refine gate_guard (by rfl) ?_; dsimp only)); refine wpList_load_mid rfl 32 (.tmp 1) rfl gb142 0 rfl [.int .i8 a0_0, .int .i8 a0_1, .int .i8 a0_2, .int .i8 a0_3, .int .i8 a0_4, .int .i8 a0_5, .int .i8 a0_6, .int .i8 a0_7, .int .i8 a0_8, .int .i8 a0_9, .int .i8 a0_10, .int .i8 a0_11, .int .i8 a0_12, .int .i8 a0_13, .int .i8 a0_14, .int .i8 a0_15, .int .i8 a0_16, .int .i8 a0_17, .int .i8 a0_18, .int .i8 a0_19, .int .i8 a0_20, .int .i8 a0_21, .int .i8 a0_22, .int .i8 a0_23, .int .i8 a0_24, .int .i8 a0_25, .int .i8 a0_26, .int .i8 a0_27, .slice A0_28 l0_28.length c0_28] _ (range_partx_ [] [.int .i8 a0_0, .int .i8 a0_1, .int .i8 a0_2, .int .i8 a0_3, .int .i8 a0_4, .int .i8 a0_5, .int .i8 a0_6, .int .i8 a0_7, .int .i8 a0_8, .int .i8 a0_9, .int .i8 a0_10, .int .i8 a0_11, .int .i8 a0_12, .int .i8 a0_13, .int .i8 a0_14, .int .i8 a0_15, .int .i8 a0_16, .int .i8 a0_17, .int .i8 a0_18, .int .i8 a0_19, .int .i8 a0_20, .int .i8 a0_21, .int .i8 a0_22, .int .i8 a0_23, .int .i8 a0_24, .int .i8 a0_25, .int .i8 a0_26, .int .i8 a0_27, .slice A0_28 l0_28.length c0_28] [] 0 rfl (by (with_reducible repeat (first | refine blk_drewN ?_ _ | refine blk_drew ?_ | refine blk_alloc ?_ _)); exact BK142.out)) Tryd.underlying32 rfl (by exact (show (Tryd.prog.info? 32).map (·.size) = some 29 by kernel_rfl)) ?_) | ((with_reducible refine gate_callee (f := 121) rfl ?_); refine goesL_ (some 4) rfl rfl Tryd.func121 (by kernel_rfl) rfl #[.agg #[.int .i8 a0_0, .int .i8 a0_1, .int .i8 a0_2, .int .i8 a0_3, .int .i8 a0_4, .int .i8 a0_5, .int .i8 a0_6, .int .i8 a0_7, .int .i8 a0_8, .int .i8 a0_9, .int .i8 a0_10, .int .i8 a0_11, .int .i8 a0_12, .int .i8 a0_13, .int .i8 a0_14, .int .i8 a0_15, .int .i8 a0_16, .int .i8 a0_17, .int .i8 a0_18, .int .i8 a0_19, .int .i8 a0_20, .int .i8 a0_21, .int .i8 a0_22, .int .i8 a0_23, .int .i8 a0_24, .int .i8 a0_25, .int .i8 a0_26, .int .i8 a0_27, .slice A0_28 l0_28.length c0_28]] rfl (by (try simp only [List.map_toArray, List.map_cons, List.map_nil]); first | done | rfl | (simp only [List.length_drop, List.length_take]; rfl)) ?_; (with_reducible refine (impl_Face_isFace.calls a0_0 a0_1 a0_2 a0_3 a0_4 a0_5 a0_6 a0_7 a0_8 a0_9 a0_10 a0_11 a0_12 a0_13 a0_14 a0_15 a0_16 a0_17 a0_18 a0_19 a0_20 a0_21 a0_22 a0_23 a0_24 a0_25 a0_26 a0_27 _ _ l0_28 true _ ?side1 ?side2 A2.out).mono ?_); (case side1 => repeat (first | exact (Kd.C_below HR0_28.out HB.out) | (with_reducible refine Kd.C_alloc ?_ _) | (with_reducible refine Kd.C_drewN ?_ _) | (with_reducible refine Kd.C_drew ?_))); (case side2 => exact HC0_28.out); rintro e w5 ⟨rfl, hb⟩; refine ⟨_, rfl, ?_⟩; have n0_ := Aside0.mk (blk_below (g := gb142) (o := .cells #[.int .i8 a0_0, .int .i8 a0_1, .int .i8 a0_2, .int .i8 a0_3, .int .i8 a0_4, .int .i8 a0_5, .int .i8 a0_6, .int .i8 a0_7, .int .i8 a0_8, .int .i8 a0_9, .int .i8 a0_10, .int .i8 a0_11, .int .i8 a0_12, .int .i8 a0_13, .int .i8 a0_14, .int .i8 a0_15, .int .i8 a0_16, .int .i8 a0_17, .int .i8 a0_18, .int .i8 a0_19, .int .i8 a0_20, .int .i8 a0_21, .int .i8 a0_22, .int .i8 a0_23, .int .i8 a0_24, .int .i8 a0_25, .int .i8 a0_26, .int .i8 a0_27, .slice A0_28 l0_28.length c0_28] 32 (0, 0)) (by (with_reducible repeat (first | refine blk_drewN ?_ _ | refine blk_drew ?_ | refine blk_alloc ?_ _)); exact BK142.out) hb); have n1_ := Aside0.mk (below_step (by repeat (first | (with_reducible first | exact HB.out | apply below_alloc | apply pw_below_drewN | apply below_drew1 | refine below_set ?_ GE142.out) | exact HB.out)) hb); clear BK142; clear HB; have BK142 := n0_; have HB := n1_; clear n0_ n1_; (try clear hb); (try clear hb2); (try clear hk); (try clear hi); have hcz6_26 : w5.cell? ⟨gb142, 26, none⟩ = some (.int .i8 a0_26) := (blk_cell BK142.out 26).trans rfl; have hcz6_27 : w5.cell? ⟨gb142, 27, none⟩ = some (.int .i8 a0_27) := (blk_cell BK142.out 27).trans rfl; have hcz6_28 : w5.cell? ⟨gb142, 28, none⟩ = some (.slice A0_28 l0_28.length c0_28) := (blk_cell BK142.out 28).trans rfl; have hfz6_26 := blk_frozen BK142.out 26; have hfz6_27 := blk_frozen BK142.out 27; have hfz6_28 := blk_frozen BK142.out 28))
    go_ret
    exact ⟨by first | rfl | (simp [errW_none, errW_some] <;> rfl) | (simp [*, errW_none, errW_some] <;> rfl), by repeat (first | (with_reducible first | exact HB.out | apply below_alloc | apply pw_below_drewN | apply below_drew1 | refine below_set ?_ GE142.out) | exact HB.out)⟩
  · replace c3 := Bool.eq_false_iff.mpr c3
    subst c3
    have H1 : (some false) = some r := by rw [if_neg (show ¬ (false = true) by decide)] at H; exact H
    clear H
    have H := H1
    clear H1
    obtain rfl := Option.some.inj H
    go_enter Tryd.func68, Tryd.ntmps68
    go_wp2_with (first | ((with_reducible refine gate_dst (N := 1) rfl ?_); (try (refine gate_guard (by rfl) ?_; dsimp only)); refine box_event ?hg (N := 1) ?hd (cs := #[.int .i8 a0_0, .int .i8 a0_1, .int .i8 a0_2, .int .i8 a0_3, .int .i8 a0_4, .int .i8 a0_5, .int .i8 a0_6, .int .i8 a0_7, .int .i8 a0_8, .int .i8 a0_9, .int .i8 a0_10, .int .i8 a0_11, .int .i8 a0_12, .int .i8 a0_13, .int .i8 a0_14, .int .i8 a0_15, .int .i8 a0_16, .int .i8 a0_17, .int .i8 a0_18, .int .i8 a0_19, .int .i8 a0_20, .int .i8 a0_21, .int .i8 a0_22, .int .i8 a0_23, .int .i8 a0_24, .int .i8 a0_25, .int .i8 a0_26, .int .i8 a0_27, .slice A0_28 l0_28.length c0_28]) (t := 32) ?hr ?_; (case hd => rfl); (case hg => rfl); (case hr => first | (go_simp; done) | (go_simp; rfl)); intro gb142 hg w7 hbox hb; have n0_ := Aside0.mk (below_step (by repeat (first | (with_reducible first | exact HB.out | apply below_alloc | apply pw_below_drewN | apply below_drew1) | exact HB.out)) hb); have n1_ := Aside0.mk (hbox); have n2_ := Aside0.mk ((by rw [hg]; exact (below_size (by repeat (first | (with_reducible first | exact HB.out | apply below_alloc | apply pw_below_drewN | apply below_drew1) | exact HB.out))) : w.heap.size ≤ gb142)); have n3_ := Aside0.mk ((by rw [hg]; exact (below_size (by repeat (first | (with_reducible first | exact HB.out | apply below_alloc | apply pw_below_drewN | apply below_drew1) | exact HB.out))) : w.heap.size ≤ gb142)); clear HB; have HB := n0_; have BK142 := n1_; have GW142 := n2_; have GE142 := n3_; clear n0_ n1_ n2_ n3_; clear hb hbox hg) | ((with_reducible refine gate_dst (N := 3) rfl ?_); (try (refine gate_guard (by rfl) ?_; dsimp only)); refine wpList_load_mid rfl 32 (.tmp 1) rfl gb142 0 rfl [.int .i8 a0_0, .int .i8 a0_1, .int .i8 a0_2, .int .i8 a0_3, .int .i8 a0_4, .int .i8 a0_5, .int .i8 a0_6, .int .i8 a0_7, .int .i8 a0_8, .int .i8 a0_9, .int .i8 a0_10, .int .i8 a0_11, .int .i8 a0_12, .int .i8 a0_13, .int .i8 a0_14, .int .i8 a0_15, .int .i8 a0_16, .int .i8 a0_17, .int .i8 a0_18, .int .i8 a0_19, .int .i8 a0_20, .int .i8 a0_21, .int .i8 a0_22, .int .i8 a0_23, .int .i8 a0_24, .int .i8 a0_25, .int .i8 a0_26, .int .i8 a0_27, .slice A0_28 l0_28.length c0_28] _ (range_partx_ [] [.int .i8 a0_0, .int .i8 a0_1, .int .i8 a0_2, .int .i8 a0_3, .int .i8 a0_4, .int .i8 a0_5, .int .i8 a0_6, .int .i8 a0_7, .int .i8 a0_8, .int .i8 a0_9, .int .i8 a0_10, .int .i8 a0_11, .int .i8 a0_12, .int .i8 a0_13, .int .i8 a0_14, .int .i8 a0_15, .int .i8 a0_16, .int .i8 a0_17, .int .i8 a0_18, .int .i8 a0_19, .int .i8 a0_20, .int .i8 a0_21, .int .i8 a0_22, .int .i8 a0_23, .int .i8 a0_24, .int .i8 a0_25, .int .i8 a0_26, .int .i8 a0_27, .slice A0_28 l0_28.length c0_28] [] 0 rfl (by (with_reducible repeat (first | refine blk_drewN ?_ _ | refine blk_drew ?_ | refine blk_alloc ?_ _)); exact BK142.out)) Tryd.underlying32 rfl (by exact (show (Tryd.prog.info? 32).map (·.size) = some 29 by kernel_rfl)) ?_) | ((with_reducible refine gate_callee (f := 121) rfl ?_); refine goesL_ (some 4) rfl rfl Tryd.func121 (by kernel_rfl) rfl #[.agg #[.int .i8 a0_0, .int .i8 a0_1, .int .i8 a0_2, .int .i8 a0_3, .int .i8 a0_4, .int .i8 a0_5, .int .i8 a0_6, .int .i8 a0_7, .int .i8 a0_8, .int .i8 a0_9, .int .i8 a0_10, .int .i8 a0_11, .int .i8 a0_12, .int .i8 a0_13, .int .i8 a0_14, .int .i8 a0_15, .int .i8 a0_16, .int .i8 a0_17, .int .i8 a0_18, .int .i8 a0_19, .int .i8 a0_20, .int .i8 a0_21, .int .i8 a0_22, .int .i8 a0_23, .int .i8 a0_24, .int .i8 a0_25, .int .i8 a0_26, .int .i8 a0_27, .slice A0_28 l0_28.length c0_28]] rfl (by (try simp only [List.map_toArray, List.map_cons, List.map_nil]); first | done | rfl | (simp only [List.length_drop, List.length_take]; rfl)) ?_; (with_reducible refine (impl_Face_isFace.calls a0_0 a0_1 a0_2 a0_3 a0_4 a0_5 a0_6 a0_7 a0_8 a0_9 a0_10 a0_11 a0_12 a0_13 a0_14 a0_15 a0_16 a0_17 a0_18 a0_19 a0_20 a0_21 a0_22 a0_23 a0_24 a0_25 a0_26 a0_27 _ _ l0_28 false _ ?side1 ?side2 A2.out).mono ?_); (case side1 => repeat (first | exact (Kd.C_below HR0_28.out HB.out) | (with_reducible refine Kd.C_alloc ?_ _) | (with_reducible refine Kd.C_drewN ?_ _) | (with_reducible refine Kd.C_drew ?_))); (case side2 => exact HC0_28.out); rintro e w8 ⟨rfl, hb⟩; refine ⟨_, rfl, ?_⟩; have n0_ := Aside0.mk (blk_below (g := gb142) (o := .cells #[.int .i8 a0_0, .int .i8 a0_1, .int .i8 a0_2, .int .i8 a0_3, .int .i8 a0_4, .int .i8 a0_5, .int .i8 a0_6, .int .i8 a0_7, .int .i8 a0_8, .int .i8 a0_9, .int .i8 a0_10, .int .i8 a0_11, .int .i8 a0_12, .int .i8 a0_13, .int .i8 a0_14, .int .i8 a0_15, .int .i8 a0_16, .int .i8 a0_17, .int .i8 a0_18, .int .i8 a0_19, .int .i8 a0_20, .int .i8 a0_21, .int .i8 a0_22, .int .i8 a0_23, .int .i8 a0_24, .int .i8 a0_25, .int .i8 a0_26, .int .i8 a0_27, .slice A0_28 l0_28.length c0_28] 32 (0, 0)) (by (with_reducible repeat (first | refine blk_drewN ?_ _ | refine blk_drew ?_ | refine blk_alloc ?_ _)); exact BK142.out) hb); have n1_ := Aside0.mk (below_step (by repeat (first | (with_reducible first | exact HB.out | apply below_alloc | apply pw_below_drewN | apply below_drew1 | refine below_set ?_ GE142.out) | exact HB.out)) hb); clear BK142; clear HB; have BK142 := n0_; have HB := n1_; clear n0_ n1_; (try clear hb); (try clear hb2); (try clear hk); (try clear hi)))
    go_ret
    exact ⟨by first | rfl | (simp [errW_none, errW_some] <;> rfl) | (simp [*, errW_none, errW_some] <;> rfl), by repeat (first | (with_reducible first | exact HB.out | apply below_alloc | apply pw_below_drewN | apply below_drew1 | refine below_set ?_ GE142.out) | exact HB.out)⟩
end Go.Proofs.YticjkfacdmmopaaDoor.Q
namespace Go.Proofs.YticjkfacdmmopaaDoor.Ext
end Go.Proofs.YticjkfacdmmopaaDoor.Ext
namespace Go.Proofs.YticjkfacdmmopaaDoor.Q
open Go.Proofs.YticjkfacdmmopaaDoor.Ext
open Go.RowKit Go.Proofs.YticjkfacdmmopaaDoorW.PrintWords Go.Proofs.YticjkfacdmmopaaDoorW.PrintLast Go.Proofs.YticjkfacdmmopaaDoorW.PrintMore
attribute [local go_sem] max2_int min2_int max_two min_two max_three min_three max_four min_four
set_option linter.unusedVariables false
set_option linter.unusedSimpArgs false
def laws_eqPair.f (a0_0 a0_1 a0_2 a1_0 a1_1 a1_2 : Int) : Option (Bool) := if a0_0 = a1_0 then (if a0_1 = a1_1 then (if a0_2 = a1_2 then (some true) else (some false)) else (some false)) else (some false)
set_option maxHeartbeats 8000000 in
set_option maxRecDepth 100000 in
theorem laws_eqPair.calls (a0_0 a0_1 a0_2 a1_0 a1_1 a1_2 : Int) (r : Bool) (w : World) (h : laws_eqPair.f a0_0 a0_1 a0_2 a1_0 a1_1 a1_2 = some r) :
    Calls Tryd.prog 123 #[.agg #[.int .u8 a0_0, .int .u8 a0_1, .int .i8 a0_2], .agg #[.int .u8 a1_0, .int .u8 a1_1, .int .i8 a1_2]] w fun e w' => e = .returned (.bool r) ∧ Below w.heap.size w w' := by
  have hu137 := Tryd.underlying137
  have HB := Aside0.mk (Below.refl w.heap.size w)
  have H : (if a0_0 = a1_0 then (if a0_1 = a1_1 then (if a0_2 = a1_2 then (some true) else (some false)) else (some false)) else (some false)) = some r := h
  clear h
  by_cases c3 : a0_0 = a1_0
  · rw [if_pos c3] at H
    have c3b0 : (a0_0 == a1_0) = true := beq_iff_eq.mpr c3
    have c3b1 : (a0_0 != a1_0) = false := bne_eq_false_iff_eq.mpr c3
    clear c3
    by_cases c4 : a0_1 = a1_1
    · rw [if_pos c4] at H
      have c4b0 : (a0_1 == a1_1) = true := beq_iff_eq.mpr c4
      have c4b1 : (a0_1 != a1_1) = false := bne_eq_false_iff_eq.mpr c4
      clear c4
      by_cases c5 : a0_2 = a1_2
      · rw [if_pos c5] at H
        have c5b0 : (a0_2 == a1_2) = true := beq_iff_eq.mpr c5
        have c5b1 : (a0_2 != a1_2) = false := bne_eq_false_iff_eq.mpr c5
        clear c5
        obtain rfl := Option.some.inj H
        go_enter Tryd.func123, Tryd.ntmps123
        go_wp2_with (first | ((with_reducible refine gate_dst (N := 2) rfl ?_); refine box_event ?hg (N := 2) ?hd (cs := #[.int .u8 a0_0, .int .u8 a0_1, .int .i8 a0_2]) (t := 137) ?hr ?_; (case hd => rfl); (case hg => rfl); (case hr => first | (go_simp; done) | (go_simp; rfl)); intro gb178 hg w6 hbox hb; have n0_ := Aside0.mk (below_step (by repeat (first | (with_reducible first | exact HB.out | apply below_alloc | apply pw_below_drewN | apply below_drew1) | exact HB.out)) hb); have n1_ := Aside0.mk (hbox); have n2_ := Aside0.mk ((by rw [hg]; exact (below_size (by repeat (first | (with_reducible first | exact HB.out | apply below_alloc | apply pw_below_drewN | apply below_drew1) | exact HB.out))) : w.heap.size ≤ gb178)); have n3_ := Aside0.mk ((by rw [hg]; exact (below_size (by repeat (first | (with_reducible first | exact HB.out | apply below_alloc | apply pw_below_drewN | apply below_drew1) | exact HB.out))) : w.heap.size ≤ gb178)); clear HB; have HB := n0_; have BK178 := n1_; have GW178 := n2_; have GE178 := n3_; clear n0_ n1_ n2_ n3_; clear hb hbox hg) | ((with_reducible refine gate_dst (N := 3) rfl ?_); refine box_event ?hg (N := 3) ?hd (cs := #[.int .u8 a1_0, .int .u8 a1_1, .int .i8 a1_2]) (t := 137) ?hr ?_; (case hd => rfl); (case hg => rfl); (case hr => first | (go_simp; done) | (go_simp; rfl)); intro gb179 hg w7 hbox hb; have n0_ := Aside0.mk (blk_below (g := gb178) (o := .cells #[.int .u8 a0_0, .int .u8 a0_1, .int .i8 a0_2] 137 (0, 0)) (by (with_reducible repeat (first | refine blk_drewN ?_ _ | refine blk_drew ?_ | refine blk_alloc ?_ _)); exact BK178.out) hb); have n1_ := Aside0.mk (below_step (by repeat (first | (with_reducible first | exact HB.out | apply below_alloc | apply pw_below_drewN | apply below_drew1 | refine below_set ?_ GE178.out) | exact HB.out)) hb); have n2_ := Aside0.mk (hbox); have n3_ := Aside0.mk ((by rw [hg]; exact (below_size (by repeat (first | (with_reducible first | exact HB.out | apply below_alloc | apply pw_below_drewN | apply below_drew1 | refine below_set ?_ GE178.out) | exact HB.out))) : w.heap.size ≤ gb179)); have n4_ := Aside0.mk ((by rw [hg]; exact (below_size (by repeat (first | (with_reducible first | exact HB.out | apply below_alloc | apply pw_below_drewN | apply below_drew1 | refine below_set ?_ GE178.out) | exact HB.out))) : w.heap.size ≤ gb179)); have n5_ := Aside0.mk ((by rw [hg]; exact Nat.ne_of_lt (blk_lt (g := gb178) (o := .cells #[.int .u8 a0_0, .int .u8 a0_1, .int .i8 a0_2] 137 (0, 0)) (by (with_reducible repeat (first | refine blk_drewN ?_ _ | refine blk_drew ?_ | refine blk_alloc ?_ _)); exact BK178.out)) : gb178 ≠ gb179)); have n6_ := Aside0.mk ((by rw [hg]; exact Nat.ne_of_gt (blk_lt (g := gb178) (o := .cells #[.int .u8 a0_0, .int .u8 a0_1, .int .i8 a0_2] 137 (0, 0)) (by (with_reducible repeat (first | refine blk_drewN ?_ _ | refine blk_drew ?_ | refine blk_alloc ?_ _)); exact BK178.out)) : gb179 ≠ gb178)); clear BK178; clear HB; have BK178 := n0_; have HB := n1_; have BK179 := n2_; have GW179 := n3_; have GE179 := n4_; have NB178_179 := n5_; have NB179_178 := n6_; clear n0_ n1_ n2_ n3_ n4_ n5_ n6_; clear hb hbox hg; have hnb8 := NB178_179.out; have hnc8 := NB179_178.out; have hcz9_0 : w7.cell? ⟨gb178, 0, none⟩ = some (.int .u8 a0_0) := (blk_cell BK178.out 0).trans rfl; have hcz9_1 : w7.cell? ⟨gb178, 1, none⟩ = some (.int .u8 a0_1) := (blk_cell BK178.out 1).trans rfl; have hcz9_2 : w7.cell? ⟨gb178, 2, none⟩ = some (.int .i8 a0_2) := (blk_cell BK178.out 2).trans rfl; have hfz9_0 := blk_frozen BK178.out 0; have hfz9_1 := blk_frozen BK178.out 1; have hfz9_2 := blk_frozen BK178.out 2; have hcz10_0 : w7.cell? ⟨gb179, 0, none⟩ = some (.int .u8 a1_0) := (blk_cell BK179.out 0).trans rfl; have hcz10_1 : w7.cell? ⟨gb179, 1, none⟩ = some (.int .u8 a1_1) := (blk_cell BK179.out 1).trans rfl; have hcz10_2 : w7.cell? ⟨gb179, 2, none⟩ = some (.int .i8 a1_2) := (blk_cell BK179.out 2).trans rfl; have hfz10_0 := blk_frozen BK179.out 0; have hfz10_1 := blk_frozen BK179.out 1; have hfz10_2 := blk_frozen BK179.out 2))
        go_ret
        exact ⟨by first | rfl | (simp [errW_none, errW_some] <;> rfl) | (simp [*, errW_none, errW_some] <;> rfl), by repeat (first | (with_reducible first | exact HB.out | apply below_alloc | apply pw_below_drewN | apply below_drew1 | refine below_set ?_ GE178.out | refine below_set ?_ GE179.out) | exact HB.out)⟩
      · rw [if_neg c5] at H
        have c5b0 : (a0_2 == a1_2) = false := beq_eq_false_iff_ne.mpr c5
        have c5b1 : (a0_2 != a1_2) = true := bne_iff_ne.mpr c5
        obtain rfl := Option.some.inj H
        go_enter Tryd.func123, Tryd.ntmps123
        go_wp2_with (first | ((with_reducible refine gate_dst (N := 2) rfl ?_); refine box_event ?hg (N := 2) ?hd (cs := #[.int .u8 a0_0, .int .u8 a0_1, .int .i8 a0_2]) (t := 137) ?hr ?_; (case hd => rfl); (case hg => rfl); (case hr => first | (go_simp; done) | (go_simp; rfl)); intro gb178 hg w11 hbox hb; have n0_ := Aside0.mk (below_step (by repeat (first | (with_reducible first | exact HB.out | apply below_alloc | apply pw_below_drewN | apply below_drew1) | exact HB.out)) hb); have n1_ := Aside0.mk (hbox); have n2_ := Aside0.mk ((by rw [hg]; exact (below_size (by repeat (first | (with_reducible first | exact HB.out | apply below_alloc | apply pw_below_drewN | apply below_drew1) | exact HB.out))) : w.heap.size ≤ gb178)); have n3_ := Aside0.mk ((by rw [hg]; exact (below_size (by repeat (first | (with_reducible first | exact HB.out | apply below_alloc | apply pw_below_drewN | apply below_drew1) | exact HB.out))) : w.heap.size ≤ gb178)); clear HB; have HB := n0_; have BK178 := n1_; have GW178 := n2_; have GE178 := n3_; clear n0_ n1_ n2_ n3_; clear hb hbox hg) | ((with_reducible refine gate_dst (N := 3) rfl ?_); refine box_event ?hg (N := 3) ?hd (cs := #[.int .u8 a1_0, .int .u8 a1_1, .int .i8 a1_2]) (t := 137) ?hr ?_; (case hd => rfl); (case hg => rfl); (case hr => first | (go_simp; done) | (go_simp; rfl)); intro gb179 hg w12 hbox hb; have n0_ := Aside0.mk (blk_below (g := gb178) (o := .cells #[.int .u8 a0_0, .int .u8 a0_1, .int .i8 a0_2] 137 (0, 0)) (by (with_reducible repeat (first | refine blk_drewN ?_ _ | refine blk_drew ?_ | refine blk_alloc ?_ _)); exact BK178.out) hb); have n1_ := Aside0.mk (below_step (by repeat (first | (with_reducible first | exact HB.out | apply below_alloc | apply pw_below_drewN | apply below_drew1 | refine below_set ?_ GE178.out) | exact HB.out)) hb); have n2_ := Aside0.mk (hbox); have n3_ := Aside0.mk ((by rw [hg]; exact (below_size (by repeat (first | (with_reducible first | exact HB.out | apply below_alloc | apply pw_below_drewN | apply below_drew1 | refine below_set ?_ GE178.out) | exact HB.out))) : w.heap.size ≤ gb179)); have n4_ := Aside0.mk ((by rw [hg]; exact (below_size (by repeat (first | (with_reducible first | exact HB.out | apply below_alloc | apply pw_below_drewN | apply below_drew1 | refine below_set ?_ GE178.out) | exact HB.out))) : w.heap.size ≤ gb179)); have n5_ := Aside0.mk ((by rw [hg]; exact Nat.ne_of_lt (blk_lt (g := gb178) (o := .cells #[.int .u8 a0_0, .int .u8 a0_1, .int .i8 a0_2] 137 (0, 0)) (by (with_reducible repeat (first | refine blk_drewN ?_ _ | refine blk_drew ?_ | refine blk_alloc ?_ _)); exact BK178.out)) : gb178 ≠ gb179)); have n6_ := Aside0.mk ((by rw [hg]; exact Nat.ne_of_gt (blk_lt (g := gb178) (o := .cells #[.int .u8 a0_0, .int .u8 a0_1, .int .i8 a0_2] 137 (0, 0)) (by (with_reducible repeat (first | refine blk_drewN ?_ _ | refine blk_drew ?_ | refine blk_alloc ?_ _)); exact BK178.out)) : gb179 ≠ gb178)); clear BK178; clear HB; have BK178 := n0_; have HB := n1_; have BK179 := n2_; have GW179 := n3_; have GE179 := n4_; have NB178_179 := n5_; have NB179_178 := n6_; clear n0_ n1_ n2_ n3_ n4_ n5_ n6_; clear hb hbox hg; have hnb13 := NB178_179.out; have hnc13 := NB179_178.out; have hcz14_0 : w12.cell? ⟨gb178, 0, none⟩ = some (.int .u8 a0_0) := (blk_cell BK178.out 0).trans rfl; have hcz14_1 : w12.cell? ⟨gb178, 1, none⟩ = some (.int .u8 a0_1) := (blk_cell BK178.out 1).trans rfl; have hcz14_2 : w12.cell? ⟨gb178, 2, none⟩ = some (.int .i8 a0_2) := (blk_cell BK178.out 2).trans rfl; have hfz14_0 := blk_frozen BK178.out 0; have hfz14_1 := blk_frozen BK178.out 1; have hfz14_2 := blk_frozen BK178.out 2; have hcz15_0 : w12.cell? ⟨gb179, 0, none⟩ = some (.int .u8 a1_0) := (blk_cell BK179.out 0).trans rfl; have hcz15_1 : w12.cell? ⟨gb179, 1, none⟩ = some (.int .u8 a1_1) := (blk_cell BK179.out 1).trans rfl; have hcz15_2 : w12.cell? ⟨gb179, 2, none⟩ = some (.int .i8 a1_2) := (blk_cell BK179.out 2).trans rfl; have hfz15_0 := blk_frozen BK179.out 0; have hfz15_1 := blk_frozen BK179.out 1; have hfz15_2 := blk_frozen BK179.out 2))
        go_ret
        exact ⟨by first | rfl | (simp [errW_none, errW_some] <;> rfl) | (simp [*, errW_none, errW_some] <;> rfl), by repeat (first | (with_reducible first | exact HB.out | apply below_alloc | apply pw_below_drewN | apply below_drew1 | refine below_set ?_ GE178.out | refine below_set ?_ GE179.out) | exact HB.out)⟩
    · rw [if_neg c4] at H
      have c4b0 : (a0_1 == a1_1) = false := beq_eq_false_iff_ne.mpr c4
      have c4b1 : (a0_1 != a1_1) = true := bne_iff_ne.mpr c4
      obtain rfl := Option.some.inj H
      go_enter Tryd.func123, Tryd.ntmps123
      go_wp2_with (first | ((with_reducible refine gate_dst (N := 2) rfl ?_); refine box_event ?hg (N := 2) ?hd (cs := #[.int .u8 a0_0, .int .u8 a0_1, .int .i8 a0_2]) (t := 137) ?hr ?_; (case hd => rfl); (case hg => rfl); (case hr => first | (go_simp; done) | (go_simp; rfl)); intro gb178 hg w16 hbox hb; have n0_ := Aside0.mk (below_step (by repeat (first | (with_reducible first | exact HB.out | apply below_alloc | apply pw_below_drewN | apply below_drew1) | exact HB.out)) hb); have n1_ := Aside0.mk (hbox); have n2_ := Aside0.mk ((by rw [hg]; exact (below_size (by repeat (first | (with_reducible first | exact HB.out | apply below_alloc | apply pw_below_drewN | apply below_drew1) | exact HB.out))) : w.heap.size ≤ gb178)); have n3_ := Aside0.mk ((by rw [hg]; exact (below_size (by repeat (first | (with_reducible first | exact HB.out | apply below_alloc | apply pw_below_drewN | apply below_drew1) | exact HB.out))) : w.heap.size ≤ gb178)); clear HB; have HB := n0_; have BK178 := n1_; have GW178 := n2_; have GE178 := n3_; clear n0_ n1_ n2_ n3_; clear hb hbox hg) | ((with_reducible refine gate_dst (N := 3) rfl ?_); refine box_event ?hg (N := 3) ?hd (cs := #[.int .u8 a1_0, .int .u8 a1_1, .int .i8 a1_2]) (t := 137) ?hr ?_; (case hd => rfl); (case hg => rfl); (case hr => first | (go_simp; done) | (go_simp; rfl)); intro gb179 hg w17 hbox hb; have n0_ := Aside0.mk (blk_below (g := gb178) (o := .cells #[.int .u8 a0_0, .int .u8 a0_1, .int .i8 a0_2] 137 (0, 0)) (by (with_reducible repeat (first | refine blk_drewN ?_ _ | refine blk_drew ?_ | refine blk_alloc ?_ _)); exact BK178.out) hb); have n1_ := Aside0.mk (below_step (by repeat (first | (with_reducible first | exact HB.out | apply below_alloc | apply pw_below_drewN | apply below_drew1 | refine below_set ?_ GE178.out) | exact HB.out)) hb); have n2_ := Aside0.mk (hbox); have n3_ := Aside0.mk ((by rw [hg]; exact (below_size (by repeat (first | (with_reducible first | exact HB.out | apply below_alloc | apply pw_below_drewN | apply below_drew1 | refine below_set ?_ GE178.out) | exact HB.out))) : w.heap.size ≤ gb179)); have n4_ := Aside0.mk ((by rw [hg]; exact (below_size (by repeat (first | (with_reducible first | exact HB.out | apply below_alloc | apply pw_below_drewN | apply below_drew1 | refine below_set ?_ GE178.out) | exact HB.out))) : w.heap.size ≤ gb179)); have n5_ := Aside0.mk ((by rw [hg]; exact Nat.ne_of_lt (blk_lt (g := gb178) (o := .cells #[.int .u8 a0_0, .int .u8 a0_1, .int .i8 a0_2] 137 (0, 0)) (by (with_reducible repeat (first | refine blk_drewN ?_ _ | refine blk_drew ?_ | refine blk_alloc ?_ _)); exact BK178.out)) : gb178 ≠ gb179)); have n6_ := Aside0.mk ((by rw [hg]; exact Nat.ne_of_gt (blk_lt (g := gb178) (o := .cells #[.int .u8 a0_0, .int .u8 a0_1, .int .i8 a0_2] 137 (0, 0)) (by (with_reducible repeat (first | refine blk_drewN ?_ _ | refine blk_drew ?_ | refine blk_alloc ?_ _)); exact BK178.out)) : gb179 ≠ gb178)); clear BK178; clear HB; have BK178 := n0_; have HB := n1_; have BK179 := n2_; have GW179 := n3_; have GE179 := n4_; have NB178_179 := n5_; have NB179_178 := n6_; clear n0_ n1_ n2_ n3_ n4_ n5_ n6_; clear hb hbox hg; have hnb18 := NB178_179.out; have hnc18 := NB179_178.out; have hcz19_0 : w17.cell? ⟨gb178, 0, none⟩ = some (.int .u8 a0_0) := (blk_cell BK178.out 0).trans rfl; have hcz19_1 : w17.cell? ⟨gb178, 1, none⟩ = some (.int .u8 a0_1) := (blk_cell BK178.out 1).trans rfl; have hcz19_2 : w17.cell? ⟨gb178, 2, none⟩ = some (.int .i8 a0_2) := (blk_cell BK178.out 2).trans rfl; have hfz19_0 := blk_frozen BK178.out 0; have hfz19_1 := blk_frozen BK178.out 1; have hfz19_2 := blk_frozen BK178.out 2; have hcz20_0 : w17.cell? ⟨gb179, 0, none⟩ = some (.int .u8 a1_0) := (blk_cell BK179.out 0).trans rfl; have hcz20_1 : w17.cell? ⟨gb179, 1, none⟩ = some (.int .u8 a1_1) := (blk_cell BK179.out 1).trans rfl; have hcz20_2 : w17.cell? ⟨gb179, 2, none⟩ = some (.int .i8 a1_2) := (blk_cell BK179.out 2).trans rfl; have hfz20_0 := blk_frozen BK179.out 0; have hfz20_1 := blk_frozen BK179.out 1; have hfz20_2 := blk_frozen BK179.out 2))
      go_ret
      exact ⟨by first | rfl | (simp [errW_none, errW_some] <;> rfl) | (simp [*, errW_none, errW_some] <;> rfl), by repeat (first | (with_reducible first | exact HB.out | apply below_alloc | apply pw_below_drewN | apply below_drew1 | refine below_set ?_ GE178.out | refine below_set ?_ GE179.out) | exact HB.out)⟩
  · rw [if_neg c3] at H
    have c3b0 : (a0_0 == a1_0) = false := beq_eq_false_iff_ne.mpr c3
    have c3b1 : (a0_0 != a1_0) = true := bne_iff_ne.mpr c3
    obtain rfl := Option.some.inj H
    go_enter Tryd.func123, Tryd.ntmps123
    go_wp2_with (first | ((with_reducible refine gate_dst (N := 2) rfl ?_); refine box_event ?hg (N := 2) ?hd (cs := #[.int .u8 a0_0, .int .u8 a0_1, .int .i8 a0_2]) (t := 137) ?hr ?_; (case hd => rfl); (case hg => rfl); (case hr => first | (go_simp; done) | (go_simp; rfl)); intro gb178 hg w21 hbox hb; have n0_ := Aside0.mk (below_step (by repeat (first | (with_reducible first | exact HB.out | apply below_alloc | apply pw_below_drewN | apply below_drew1) | exact HB.out)) hb); have n1_ := Aside0.mk (hbox); have n2_ := Aside0.mk ((by rw [hg]; exact (below_size (by repeat (first | (with_reducible first | exact HB.out | apply below_alloc | apply pw_below_drewN | apply below_drew1) | exact HB.out))) : w.heap.size ≤ gb178)); have n3_ := Aside0.mk ((by rw [hg]; exact (below_size (by repeat (first | (with_reducible first | exact HB.out | apply below_alloc | apply pw_below_drewN | apply below_drew1) | exact HB.out))) : w.heap.size ≤ gb178)); clear HB; have HB := n0_; have BK178 := n1_; have GW178 := n2_; have GE178 := n3_; clear n0_ n1_ n2_ n3_; clear hb hbox hg) | ((with_reducible refine gate_dst (N := 3) rfl ?_); refine box_event ?hg (N := 3) ?hd (cs := #[.int .u8 a1_0, .int .u8 a1_1, .int .i8 a1_2]) (t := 137) ?hr ?_; (case hd => rfl); (case hg => rfl); (case hr => first | (go_simp; done) | (go_simp; rfl)); intro gb179 hg w22 hbox hb; have n0_ := Aside0.mk (blk_below (g := gb178) (o := .cells #[.int .u8 a0_0, .int .u8 a0_1, .int .i8 a0_2] 137 (0, 0)) (by (with_reducible repeat (first | refine blk_drewN ?_ _ | refine blk_drew ?_ | refine blk_alloc ?_ _)); exact BK178.out) hb); have n1_ := Aside0.mk (below_step (by repeat (first | (with_reducible first | exact HB.out | apply below_alloc | apply pw_below_drewN | apply below_drew1 | refine below_set ?_ GE178.out) | exact HB.out)) hb); have n2_ := Aside0.mk (hbox); have n3_ := Aside0.mk ((by rw [hg]; exact (below_size (by repeat (first | (with_reducible first | exact HB.out | apply below_alloc | apply pw_below_drewN | apply below_drew1 | refine below_set ?_ GE178.out) | exact HB.out))) : w.heap.size ≤ gb179)); have n4_ := Aside0.mk ((by rw [hg]; exact (below_size (by repeat (first | (with_reducible first | exact HB.out | apply below_alloc | apply pw_below_drewN | apply below_drew1 | refine below_set ?_ GE178.out) | exact HB.out))) : w.heap.size ≤ gb179)); have n5_ := Aside0.mk ((by rw [hg]; exact Nat.ne_of_lt (blk_lt (g := gb178) (o := .cells #[.int .u8 a0_0, .int .u8 a0_1, .int .i8 a0_2] 137 (0, 0)) (by (with_reducible repeat (first | refine blk_drewN ?_ _ | refine blk_drew ?_ | refine blk_alloc ?_ _)); exact BK178.out)) : gb178 ≠ gb179)); have n6_ := Aside0.mk ((by rw [hg]; exact Nat.ne_of_gt (blk_lt (g := gb178) (o := .cells #[.int .u8 a0_0, .int .u8 a0_1, .int .i8 a0_2] 137 (0, 0)) (by (with_reducible repeat (first | refine blk_drewN ?_ _ | refine blk_drew ?_ | refine blk_alloc ?_ _)); exact BK178.out)) : gb179 ≠ gb178)); clear BK178; clear HB; have BK178 := n0_; have HB := n1_; have BK179 := n2_; have GW179 := n3_; have GE179 := n4_; have NB178_179 := n5_; have NB179_178 := n6_; clear n0_ n1_ n2_ n3_ n4_ n5_ n6_; clear hb hbox hg; have hnb23 := NB178_179.out; have hnc23 := NB179_178.out; have hcz24_0 : w22.cell? ⟨gb178, 0, none⟩ = some (.int .u8 a0_0) := (blk_cell BK178.out 0).trans rfl; have hcz24_1 : w22.cell? ⟨gb178, 1, none⟩ = some (.int .u8 a0_1) := (blk_cell BK178.out 1).trans rfl; have hcz24_2 : w22.cell? ⟨gb178, 2, none⟩ = some (.int .i8 a0_2) := (blk_cell BK178.out 2).trans rfl; have hfz24_0 := blk_frozen BK178.out 0; have hfz24_1 := blk_frozen BK178.out 1; have hfz24_2 := blk_frozen BK178.out 2; have hcz25_0 : w22.cell? ⟨gb179, 0, none⟩ = some (.int .u8 a1_0) := (blk_cell BK179.out 0).trans rfl; have hcz25_1 : w22.cell? ⟨gb179, 1, none⟩ = some (.int .u8 a1_1) := (blk_cell BK179.out 1).trans rfl; have hcz25_2 : w22.cell? ⟨gb179, 2, none⟩ = some (.int .i8 a1_2) := (blk_cell BK179.out 2).trans rfl; have hfz25_0 := blk_frozen BK179.out 0; have hfz25_1 := blk_frozen BK179.out 1; have hfz25_2 := blk_frozen BK179.out 2))
    go_ret
    exact ⟨by first | rfl | (simp [errW_none, errW_some] <;> rfl) | (simp [*, errW_none, errW_some] <;> rfl), by repeat (first | (with_reducible first | exact HB.out | apply below_alloc | apply pw_below_drewN | apply below_drew1 | refine below_set ?_ GE178.out | refine below_set ?_ GE179.out) | exact HB.out)⟩
end Go.Proofs.YticjkfacdmmopaaDoor.Q
namespace Go.Proofs.YticjkfacdmmopaaDoor.Ext
end Go.Proofs.YticjkfacdmmopaaDoor.Ext
namespace Go.Proofs.YticjkfacdmmopaaDoor.Q
open Go.Proofs.YticjkfacdmmopaaDoor.Ext
open Go.RowKit Go.Proofs.YticjkfacdmmopaaDoorW.PrintWords Go.Proofs.YticjkfacdmmopaaDoorW.PrintLast Go.Proofs.YticjkfacdmmopaaDoorW.PrintMore
attribute [local go_sem] max2_int min2_int max_two min_two max_three min_three max_four min_four
set_option linter.unusedVariables false
set_option linter.unusedSimpArgs false
def impl_unless.f (a0 : Bool) (a1 : Int) : Option (Int) := if a0 = true then (some 0) else (some a1)
set_option maxHeartbeats 8000000 in
set_option maxRecDepth 100000 in
theorem impl_unless.calls (a0 : Bool) (a1 : Int) (r : Int) (w : World) (h : impl_unless.f a0 a1 = some r) :
    Calls Tryd.prog 125 #[.bool a0, .int .i64 a1] w fun e w' => e = .returned (.int .i64 r) ∧ Drawn0 w w' := by
  have H : (if a0 = true then (some 0) else (some a1)) = some r := h
  clear h
  by_cases c3 : a0 = true
  · subst c3
    have H1 : (some 0) = some r := by rw [if_pos rfl] at H; exact H
    clear H
    have H := H1
    clear H1
    obtain rfl := Option.some.inj H
    go_enter Tryd.func125, Tryd.ntmps125
    go_wp2
    go_ret
    exact ⟨by first | rfl | (simp; done) | (simp [*]; done), by repeat (first | exact Drawn0.refl _ | apply Drawn0.step)⟩
  · replace c3 := Bool.eq_false_iff.mpr c3
    subst c3
    have H1 : (some a1) = some r := by rw [if_neg (show ¬ (false = true) by decide)] at H; exact H
    clear H
    have H := H1
    clear H1
    obtain rfl := Option.some.inj H
    go_enter Tryd.func125, Tryd.ntmps125
    go_wp2
    go_ret
    exact ⟨by first | rfl | (simp; done) | (simp [*]; done), by repeat (first | exact Drawn0.refl _ | apply Drawn0.step)⟩
end Go.Proofs.YticjkfacdmmopaaDoor.Q
namespace Go.Proofs.YticjkfacdmmopaaDoor.Ext
end Go.Proofs.YticjkfacdmmopaaDoor.Ext
namespace Go.Proofs.YticjkfacdmmopaaDoor.Q
open Go.Proofs.YticjkfacdmmopaaDoor.Ext
open Go.RowKit Go.Proofs.YticjkfacdmmopaaDoorW.PrintWords Go.Proofs.YticjkfacdmmopaaDoorW.PrintLast Go.Proofs.YticjkfacdmmopaaDoorW.PrintMore
attribute [local go_sem] max2_int min2_int max_two min_two max_three min_three max_four min_four
set_option linter.unusedVariables false
set_option linter.unusedSimpArgs false
end Go.Proofs.YticjkfacdmmopaaDoor.Q
namespace Go.Proofs.YticjkfacdmmopaaDoor.Ext
end Go.Proofs.YticjkfacdmmopaaDoor.Ext
namespace Go.Proofs.YticjkfacdmmopaaDoor.Q
open Go.Proofs.YticjkfacdmmopaaDoor.Ext
open Go.RowKit Go.Proofs.YticjkfacdmmopaaDoorW.PrintWords Go.Proofs.YticjkfacdmmopaaDoorW.PrintLast Go.Proofs.YticjkfacdmmopaaDoorW.PrintMore
attribute [local go_sem] max2_int min2_int max_two min_two max_three min_three max_four min_four
set_option linter.unusedVariables false
set_option linter.unusedSimpArgs false
end Go.Proofs.YticjkfacdmmopaaDoor.Q
namespace Go.Proofs.YticjkfacdmmopaaDoor.Pure
open Go.RowKit Go.Proofs.YticjkfacdmmopaaDoor.Ext Go.Proofs.YticjkfacdmmopaaDoor.Q Go.Proofs.YticjkfacdmmopaaDoorW.PrintWords Go.Proofs.YticjkfacdmmopaaDoorW.PrintLast Go.Proofs.YticjkfacdmmopaaDoorW.PrintMore
set_option linter.unusedVariables false
set_option linter.unusedSimpArgs false
theorem w64 {x : Int} (h0 : -9223372036854775808 ≤ x) (h1 : x ≤ 9223372036854775807) : wrap64 x = x := by unfold wrap64; omega
theorem wrap_succ (n : Nat) (h : n ≤ 4611686018427387904) : wrap64 ((n : Int) + 1) = ((n + 1 : Nat) : Int) := by unfold wrap64; omega
theorem rd_get (l : List Int) (n : Nat) (h : n < l.length) : rd l n = l[n] := by
  simp [rd, List.getD_eq_getElem?_getD, List.getElem?_eq_getElem h]
theorem rd_mem (l : List Int) (n : Nat) (h : n < l.length) : rd l n ∈ l := by
  rw [rd_get l n h]; exact List.getElem_mem h
theorem some_k {k d : Nat} (h : d < k) : ∃ m, k = m + 1 := ⟨k - 1, by omega⟩
end Go.Proofs.YticjkfacdmmopaaDoor.Pure
namespace Go.Proofs.YticjkfacdmmopaaDoor.Ext
end Go.Proofs.YticjkfacdmmopaaDoor.Ext
namespace Go.Proofs.YticjkfacdmmopaaDoor.Q
open Go.Proofs.YticjkfacdmmopaaDoor.Ext
open Go.RowKit Go.Proofs.YticjkfacdmmopaaDoorW.PrintWords Go.Proofs.YticjkfacdmmopaaDoorW.PrintLast Go.Proofs.YticjkfacdmmopaaDoorW.PrintMore
attribute [local go_sem] max2_int min2_int max_two min_two max_three min_three max_four min_four
set_option linter.unusedVariables false
set_option linter.unusedSimpArgs false
def impl_lettersOf.f (a0 : ByteArray) : Option (ByteArray) := (strings_ReplaceAll.f a0 (⟨#[32]⟩ : ByteArray) (⟨#[]⟩ : ByteArray)).bind fun t939 => (some t939)
set_option maxHeartbeats 8000000 in
set_option maxRecDepth 100000 in
theorem impl_lettersOf.calls (a0 : ByteArray) (r : ByteArray) (w : World) (hG : GlobM w) (h : impl_lettersOf.f a0 = some r) :
    Calls Tryd.prog 87 #[.string a0] w fun e w' => e = .returned (.string r) ∧ Below w.heap.size w w' := by
  have HG := Aside0.mk hG
  clear hG
  have HB := Aside0.mk (Below.refl w.heap.size w)
  have H : ((strings_ReplaceAll.f a0 (⟨#[32]⟩ : ByteArray) (⟨#[]⟩ : ByteArray)).bind fun t939 => (some t939)) = some r := h
  clear h
  replace H := Option.bind_eq_some_iff.mp H
  obtain ⟨t939, A20, H⟩ := H
  replace H : (some t939) = some r := H
  have A2 := Aside0.mk A20
  clear A20
  obtain rfl := Option.some.inj H
  go_enter Tryd.func87, Tryd.ntmps87
  go_wp2_with (first | ((with_reducible refine gate_callee (f := 130) rfl ?_); refine goesL_ (some 4) rfl rfl Tryd.func130 (by kernel_rfl) rfl #[.string a0, .string (⟨#[32]⟩ : ByteArray), .string (⟨#[]⟩ : ByteArray)] rfl (by (try simp only [List.map_toArray, List.map_cons, List.map_nil]); first | done | rfl | (simp only [List.length_drop, List.length_take]; rfl)) ?_; (with_reducible refine (strings_ReplaceAll.calls a0 (⟨#[32]⟩ : ByteArray) (⟨#[]⟩ : ByteArray) t939 _ ?sideG A2.out).mono ?_); (case sideG => first | exact HG.out.below (by repeat (first | (with_reducible first | exact HB.out | apply below_alloc | apply pw_below_drewN | apply below_drew1) | exact HB.out)) | exact (HG.out.below (by repeat (first | (with_reducible first | exact HB.out | apply below_alloc | apply pw_below_drewN | apply below_drew1) | exact HB.out))).toM); rintro e w3 ⟨rfl, hb⟩; refine ⟨_, rfl, ?_⟩; have n0_ := Aside0.mk (below_step (by repeat (first | (with_reducible first | exact HB.out | apply below_alloc | apply pw_below_drewN | apply below_drew1) | exact HB.out)) hb); clear HB; have HB := n0_; clear n0_; (try clear hb); (try clear hb2); (try clear hk); (try clear hi)))
  go_ret
  exact ⟨by first | rfl | (simp [errW_none, errW_some] <;> rfl) | (simp [*, errW_none, errW_some] <;> rfl), by repeat (first | (with_reducible first | exact HB.out | apply below_alloc | apply pw_below_drewN | apply below_drew1) | exact HB.out)⟩
end Go.Proofs.YticjkfacdmmopaaDoor.Q
namespace Go.Proofs.YticjkfacdmmopaaDoor.Pure
open Go.RowKit Go.Proofs.YticjkfacdmmopaaDoor.Ext Go.Proofs.YticjkfacdmmopaaDoor.Q Go.Proofs.YticjkfacdmmopaaDoor.Txt Go.Proofs.YticjkfacdmmopaaDoorW.PrintWords Go.Proofs.YticjkfacdmmopaaDoorW.PrintLast Go.Proofs.YticjkfacdmmopaaDoorW.PrintMore
set_option linter.unusedVariables false
set_option linter.unusedSimpArgs false
theorem toList_loop (s : ByteArray) : ∀ (d i : Nat) (r : List UInt8), i + d = s.size → ByteArray.toList.loop s i r = r.reverse ++ s.data.toList.drop i
  | 0, i, r, h => by
    rw [ByteArray.toList.loop, if_neg (by omega), List.drop_eq_nil_of_le (by rw [data_length]; omega), List.append_nil]
  | d + 1, i, r, h => by
    rw [ByteArray.toList.loop, if_pos (by omega), toList_loop s d (i + 1) _ (by omega)]
    have hi : i < s.data.toList.length := by rw [data_length]; omega
    have hi' : i < s.data.size := by simpa using hi
    have e : s.get! i = s.data.toList[i] := by
      show s.data[i]! = _
      rw [getElem!_pos s.data i hi', Array.getElem_toList]
    rw [List.reverse_cons, List.append_assoc, List.drop_eq_getElem_cons hi, e]
    rfl
theorem toList_data (s : ByteArray) : s.toList = s.data.toList := by
  have := toList_loop s s.size 0 [] (by omega)
  simpa [ByteArray.toList] using this
theorem bt_get (s : ByteArray) (i : Nat) (h : i < s.data.toList.length) : bt s (i : Int) = ((s.data.toList.getD i 0).toNat : Int) := by
  have h' : i < s.size := by rw [← data_length]; exact h
  unfold bt
  rw [Int.toNat_natCast, dif_pos h']
  congr 2
  have := Lib.data_getElem? s i h'
  rw [List.getD_eq_getElem?_getD, this]
  rfl
theorem u8_eq (b : UInt8) (n : Nat) (hn : n < 256) : ((b.toNat : Int) = n) ↔ b = UInt8.ofNat n := by
  constructor
  · intro h
    apply UInt8.toNat_inj.1
    rw [UInt8.toNat_ofNat']; omega
  · rintro rfl
    rw [UInt8.toNat_ofNat']; omega
theorem is32 (b : UInt8) : ((b.toNat : Int) = 32) ↔ b = 32 := u8_eq b 32 (by omega)
def okAt (l : List UInt8) (i : Nat) : Bool :=
  if l.getD i 0 = 32 then !(i == 0 || (i + 1 == l.length || l.getD (i - 1) 0 == 32)) else decide (65 ≤ (l.getD i 0).toNat) && decide ((l.getD i 0).toNat ≤ 90)
theorem range_succ (i d : Nat) : List.range' i (d + 1) = i :: List.range' (i + 1) d := by rw [List.range'_succ]
theorem letter_eq (s : ByteArray) (i : Nat) (h : i < s.data.toList.length) : spec_l01Letter.f (bt s i) = some (decide (65 ≤ (s.data.toList.getD i 0).toNat) && decide ((s.data.toList.getD i 0).toNat ≤ 90)) := by
  unfold spec_l01Letter.f
  rw [bt_get s i h]
  by_cases h1 : 65 ≤ (s.data.toList.getD i 0).toNat
  · rw [if_pos (by omega)]; simp only [h1, decide_true, Bool.true_and]; congr 1; rw [Bool.eq_iff_iff]; simp; omega
  · rw [if_neg (by omega)]; simp only [h1, decide_false, Bool.false_and]
theorem isLetter_eq (s : ByteArray) (i : Nat) (h : i < s.data.toList.length) : impl_isLetter.f (bt s i) = some (decide (65 ≤ (s.data.toList.getD i 0).toNat) && decide ((s.data.toList.getD i 0).toNat ≤ 90)) := by
  unfold impl_isLetter.f
  rw [bt_get s i h]
  by_cases h1 : 65 ≤ (s.data.toList.getD i 0).toNat
  · rw [if_pos (by omega)]; simp only [h1, decide_true, Bool.true_and]; congr 1; rw [Bool.eq_iff_iff]; simp; omega
  · rw [if_neg (by omega)]; simp only [h1, decide_false, Bool.false_and]
theorem text_l0 (s : ByteArray) (hs : s.size ≤ 4611686018427387904) : ∀ (d k i : Nat), i + d = s.size → d < k →
    spec_l01Text.l0 k s i = some ((List.range' i d).all (okAt s.data.toList) && decide (s.size ≤ 60))
  | 0, k, i, hd, hk => by
    obtain ⟨k, rfl⟩ := some_k hk
    simp only [spec_l01Text.l0]
    rw [if_neg (by omega)]
    simp only [List.range'_zero, List.all_nil, Bool.true_and]
    congr 1
    rw [Bool.eq_iff_iff]; simp; omega
  | d + 1, k, i, hd, hk => by
    obtain ⟨k, rfl⟩ := some_k hk
    have hlen : s.data.toList.length = s.size := data_length s
    have ih := text_l0 s hs d k (i + 1) (by omega) (by omega)
    simp only [spec_l01Text.l0]
    rw [if_pos (by omega), if_pos (by omega), wrap_succ i (by omega), ih, letter_eq s i (by omega), bt_get s i (by omega)]
    rw [range_succ, List.all_cons]
    by_cases h1 : s.data.toList.getD i 0 = 32
    · rw [if_pos ((is32 _).2 h1)]
      by_cases h2 : i = 0
      · rw [if_pos (by omega)]
        subst h2
        have e : okAt s.data.toList 0 = false := by unfold okAt; rw [if_pos h1]; simp
        rw [e]; simp
      · rw [if_neg (by omega), w64 (x := (s.size : Int) - 1) (by omega) (by omega)]
        by_cases h3 : i + 1 = s.size
        · rw [if_pos (by omega)]
          have h3' : i + 1 = s.data.toList.length := by omega
          have e : okAt s.data.toList i = false := by
            unfold okAt
            rw [if_pos h1, show (i + 1 == s.data.toList.length) = true from by rw [beq_iff_eq]; exact h3']
            simp
          rw [e]; simp
        · rw [if_neg (by omega), w64 (x := (i : Int) - 1) (by omega) (by omega), if_pos (by omega), if_pos (by omega)]
          rw [show (i : Int) - 1 = ((i - 1 : Nat) : Int) by omega, bt_get s (i - 1) (by omega)]
          by_cases h4 : s.data.toList.getD (i - 1) 0 = 32
          · rw [if_pos ((is32 _).2 h4)]
            have e : okAt s.data.toList i = false := by unfold okAt; rw [if_pos h1, h4]; simp
            rw [e]; simp
          · rw [if_neg (fun h => h4 ((is32 _).1 h))]
            have e : okAt s.data.toList i = true := by
              unfold okAt
              rw [if_pos h1]
              have h4' : (s.data.toList.getD (i - 1) 0 == 32) = false := by rw [beq_eq_false_iff_ne]; exact h4
              have h3' : (i + 1 == s.data.toList.length) = false := by rw [beq_eq_false_iff_ne]; omega
              have h2' : (i == 0) = false := by rw [beq_eq_false_iff_ne]; omega
              rw [h4', h3', h2']; rfl
            rw [e]; simp
    · rw [if_neg (fun h => h1 ((is32 _).1 h))]
      have e : okAt s.data.toList i = (decide (65 ≤ (s.data.toList.getD i 0).toNat) && decide ((s.data.toList.getD i 0).toNat ≤ 90)) := by unfold okAt; rw [if_neg h1]
      rw [e, Option.bind_some]
      cases (decide (65 ≤ (s.data.toList.getD i 0).toNat) && decide ((s.data.toList.getD i 0).toNat ≤ 90)) <;> simp
theorem spaced_l0 (s : ByteArray) (hs : s.size ≤ 4294967280) : ∀ (d k i : Nat), i + d = s.size → d < k →
    impl_isSpaced.l0 k s (s.size : Int) i = some ((List.range' i d).all (fun j => okB (s.data.toList.getD j 0)) && !(Lib.contains s.data.toList [32, 32]))
  | 0, k, i, hd, hk => by
    obtain ⟨k, rfl⟩ := some_k hk
    simp only [impl_isSpaced.l0]
    rw [if_neg (by omega)]
    unfold strings_Contains.f
    rw [if_pos (by omega)]
    simp
  | d + 1, k, i, hd, hk => by
    obtain ⟨k, rfl⟩ := some_k hk
    have hlen : s.data.toList.length = s.size := data_length s
    have ih := spaced_l0 s hs d k (i + 1) (by omega) (by omega)
    simp only [impl_isSpaced.l0]
    rw [if_pos (by omega), if_pos (by omega), if_pos (by omega), wrap_succ i (by omega), ih, isLetter_eq s i (by omega), bt_get s i (by omega), Option.bind_some, range_succ, List.all_cons]
    have e : okB (s.data.toList.getD i 0) = ((decide (65 ≤ (s.data.toList.getD i 0).toNat) && decide ((s.data.toList.getD i 0).toNat ≤ 90)) || s.data.toList.getD i 0 == 32) := rfl
    rw [e]
    cases hc : (decide (65 ≤ (s.data.toList.getD i 0).toNat) && decide ((s.data.toList.getD i 0).toNat ≤ 90))
    · simp only [Bool.false_eq_true, if_false, Bool.false_or]
      by_cases h1 : s.data.toList.getD i 0 = 32
      · rw [if_pos ((is32 _).2 h1), h1]; simp
      · rw [if_neg (fun h => h1 ((is32 _).1 h))]
        have : (s.data.toList.getD i 0 == 32) = false := by rw [beq_eq_false_iff_ne]; exact h1
        rw [this]; simp
    · simp
theorem range_all (l : List UInt8) (p : UInt8 → Bool) : (List.range' 0 l.length).all (fun j => p (l.getD j 0)) = l.all p := by
  rw [Bool.eq_iff_iff, List.all_eq_true, List.all_eq_true]
  constructor
  · intro h x hx
    obtain ⟨i, hi, rfl⟩ := List.mem_iff_getElem.1 hx
    have := h i (by simp [List.mem_range']; omega)
    simpa [List.getD_eq_getElem?_getD, hi] using this
  · intro h i hi
    have hi' : i < l.length := by simpa [List.mem_range'] using hi
    have := h _ (List.getElem_mem hi')
    simpa [List.getD_eq_getElem?_getD, hi'] using this
theorem noTwo_iff : ∀ l : List UInt8, noTwo l = true ↔ ∀ i, i + 1 < l.length → ¬ (l.getD i 0 = 32 ∧ l.getD (i + 1) 0 = 32)
  | [] => by simp [noTwo]
  | [a] => by simp [noTwo]
  | a :: b :: l => by
    have ih := noTwo_iff (b :: l)
    simp only [noTwo, Bool.and_eq_true, Bool.not_eq_true', Bool.and_eq_false_iff, beq_eq_false_iff_ne]
    rw [ih]
    constructor
    · rintro ⟨h1, h2⟩ i hi
      cases i with
      | zero => simp; intro ha; rcases h1 with h | h; exact absurd ha h; exact h
      | succ i =>
        have := h2 i (by simp at hi ⊢; omega)
        simpa using this
    · intro h
      refine ⟨?_, fun i hi => ?_⟩
      · have := h 0 (by simp)
        simp at this
        by_cases ha : a = 32
        · exact .inr (this ha)
        · exact .inl ha
      · have := h (i + 1) (by simp at hi ⊢; omega)
        simpa using this
theorem head_iff (l : List UInt8) : (l.head? != some 32) = true ↔ ¬ (0 < l.length ∧ l.getD 0 0 = 32) := by
  cases l with
  | nil => simp
  | cons a t => simp
theorem last_iff (l : List UInt8) : (l.getLast? != some 32) = true ↔ ¬ (0 < l.length ∧ l.getD (l.length - 1) 0 = 32) := by
  rw [List.getLast?_eq_getElem?]
  by_cases h : 0 < l.length
  · have hi : l.length - 1 < l.length := by omega
    rw [List.getD_eq_getElem?_getD, List.getElem?_eq_getElem hi]
    simp [h]
  · have : l = [] := List.length_eq_zero_iff.1 (by omega)
    subst this; simp
theorem okAt_iff (l : List UInt8) : (List.range' 0 l.length).all (okAt l) = ((l.all okB && noTwo l) && (l.head? != some 32 && l.getLast? != some 32)) := by
  rw [Bool.eq_iff_iff]
  simp only [Bool.and_eq_true]
  rw [noTwo_iff, head_iff, last_iff, ← range_all l okB]
  simp only [List.all_eq_true, List.mem_range', Nat.zero_add, Nat.one_mul]
  have hok : ∀ i, okB (l.getD i 0) = true ↔ (l.getD i 0 = 32 ∨ (65 ≤ (l.getD i 0).toNat ∧ (l.getD i 0).toNat ≤ 90)) := by
    intro i
    simp only [okB, Bool.or_eq_true, Bool.and_eq_true, decide_eq_true_eq, beq_iff_eq]
    constructor
    · rintro (h | h)
      · exact .inr h
      · exact .inl h
    · rintro (h | h)
      · exact .inr h
      · exact .inl h
  have hat : ∀ i, okAt l i = true ↔ ((l.getD i 0 = 32 ∧ i ≠ 0 ∧ i + 1 ≠ l.length ∧ l.getD (i - 1) 0 ≠ 32) ∨ (l.getD i 0 ≠ 32 ∧ 65 ≤ (l.getD i 0).toNat ∧ (l.getD i 0).toNat ≤ 90)) := by
    intro i
    unfold okAt
    by_cases h : l.getD i 0 = 32
    · rw [if_pos h]
      simp only [Bool.not_eq_true', Bool.or_eq_false_iff, beq_eq_false_iff_ne, h, true_and, ne_eq, not_true_eq_false, false_and, or_false]
    · rw [if_neg h]
      simp only [Bool.and_eq_true, decide_eq_true_eq, h, false_and, false_or, ne_eq, not_false_eq_true, true_and]
  constructor
  · intro h
    have h' : ∀ i, i < l.length → okAt l i = true := fun i hi => h i ⟨i, hi, rfl⟩
    refine ⟨⟨?_, ?_⟩, ?_, ?_⟩
    · rintro i ⟨_, hj, rfl⟩
      rw [hok]
      rcases (hat i).1 (h' i hj) with h1 | h1
      · exact .inl h1.1
      · exact .inr h1.2
    · rintro i hi ⟨h1, h2⟩
      rcases (hat (i + 1)).1 (h' (i + 1) hi) with h3 | h3
      · exact h3.2.2.2 h1
      · exact h3.1 h2
    · rintro ⟨h1, h2⟩
      rcases (hat 0).1 (h' 0 h1) with h3 | h3
      · exact h3.2.1 rfl
      · exact h3.1 h2
    · rintro ⟨h1, h2⟩
      rcases (hat (l.length - 1)).1 (h' _ (by omega)) with h3 | h3
      · exact h3.2.2.1 (by omega)
      · exact h3.1 h2
  · rintro ⟨⟨h1, h2⟩, h3, h4⟩ i ⟨_, hj, rfl⟩
    rw [hat]
    rcases (hok i).1 (h1 i ⟨i, hj, rfl⟩) with h5 | h5
    · left
      refine ⟨h5, ?_, ?_, ?_⟩
      · rintro rfl; exact h3 ⟨hj, h5⟩
      · intro he
        refine h4 ⟨by omega, ?_⟩
        rw [show l.length - 1 = i by omega]; exact h5
      · intro he
        cases i with
        | zero => exact h3 ⟨hj, h5⟩
        | succ j => exact h2 j hj ⟨he, h5⟩
    · right
      refine ⟨?_, h5⟩
      intro he
      rw [he] at h5
      have : (32 : UInt8).toNat = 32 := rfl
      omega
theorem text_eq (s : ByteArray) (hs : s.size ≤ 4611686018427387904) {k : Nat} (hk : s.size < k) : spec_l01Text.f k s = some (txt s.data.toList) := by
  unfold spec_l01Text.f
  have := text_l0 s hs s.size k 0 (by omega) hk
  rw [show ((0 : Nat) : Int) = 0 from rfl] at this
  rw [this]
  have hlen : s.data.toList.length = s.size := data_length s
  have h2 := okAt_iff s.data.toList
  rw [hlen] at h2
  rw [h2]
  unfold txt
  rw [hlen, Bool.and_comm, ← Bool.and_assoc]
theorem valid_eq (s : ByteArray) {k : Nat} (hk : s.size < k ∨ 60 < k) : impl_ValidText.f k s = some (txt s.data.toList) := by
  have hlen : s.data.toList.length = s.size := data_length s
  unfold impl_ValidText.f
  by_cases h : s.size ≤ 60
  · rw [if_pos (by omega)]
    unfold impl_isSpaced.f
    have := spaced_l0 s (by omega) s.size k 0 (by omega) (by omega)
    rw [show ((0 : Nat) : Int) = 0 from rfl] at this
    rw [this, Option.bind_some]
    have h2 := range_all s.data.toList okB
    rw [hlen] at h2
    rw [h2, contains_two, Bool.not_not]
    unfold txt strings_Trim.f
    rw [hlen, if_pos (show _ ∧ _ from ⟨rfl, by omega⟩), Option.bind_some, toList_data, toList_data]
    have ht := trim_eq_iff s.data.toList
    have hd : decide (s.size ≤ 60) = true := by simpa using h
    rw [hd, Bool.true_and]
    cases (s.data.toList.all okB && noTwo s.data.toList)
    · simp
    · simp only [if_true, Bool.true_and]
      congr 1
      rw [Bool.eq_iff_iff, beq_iff_eq]
      show Lib.trimB s.data.toList 32 = s.data.toList ↔ _
      rw [ht]
      simp
  · rw [if_neg (by omega)]
    unfold txt
    rw [hlen]
    simp [h]
def letters (l : List UInt8) : List UInt8 := l.filter fun b => b != 32
theorem lettersOf_eq (s : ByteArray) (hs : s.size < 4294967281) : impl_lettersOf.f s = some ⟨(letters s.data.toList).toArray⟩ := by
  unfold impl_lettersOf.f strings_ReplaceAll.f
  rw [if_pos (show (_ ∧ _) ∧ _ from ⟨⟨rfl, rfl⟩, hs⟩)]
  rfl
theorem letters_le (l : List UInt8) : (letters l).length ≤ l.length := List.length_filter_le _ _
open Go.RowKit Go.Proofs.YticjkfacdmmopaaDoor.Ext Go.Proofs.YticjkfacdmmopaaDoor.Q Go.Proofs.YticjkfacdmmopaaDoor.Txt Go.Proofs.YticjkfacdmmopaaDoor.Face Go.Proofs.YticjkfacdmmopaaDoorW.PrintWords Go.Proofs.YticjkfacdmmopaaDoorW.PrintLast Go.Proofs.YticjkfacdmmopaaDoorW.PrintMore
set_option maxRecDepth 100000
theorem take26 (L : List Int) (i : Int) (h0 : 0 ≤ i) (h1 : i < 26) : rd [rd L 0, rd L 1, rd L 2, rd L 3, rd L 4, rd L 5, rd L 6, rd L 7, rd L 8, rd L 9, rd L 10, rd L 11, rd L 12, rd L 13, rd L 14, rd L 15, rd L 16, rd L 17, rd L 18, rd L 19, rd L 20, rd L 21, rd L 22, rd L 23, rd L 24, rd L 25] i = rd L i := by
  have e : [rd L 0, rd L 1, rd L 2, rd L 3, rd L 4, rd L 5, rd L 6, rd L 7, rd L 8, rd L 9, rd L 10, rd L 11, rd L 12, rd L 13, rd L 14, rd L 15, rd L 16, rd L 17, rd L 18, rd L 19, rd L 20, rd L 21, rd L 22, rd L 23, rd L 24, rd L 25] = (List.range 26).map fun n : Nat => rd L (n : Int) := rfl
  rw [e]
  unfold rd
  rw [List.getD_eq_getElem?_getD, List.getElem?_map, List.getElem?_range (by omega)]
  simp
structure FaceOk (L : List Int) (P : List Pr) : Prop where
  len : L.length = 28
  few : P.length ≤ 12
  rng : ∀ p ∈ P, -128 ≤ p.f2 ∧ p.f2 ≤ 127
  shape : shapeB L P = true
theorem faceOk {L : List Int} {P : List Pr} (hl : L.length = 28) (hr : rngB L P = true) (hf : faceB L P = true) : FaceOk L P := by
  unfold faceB at hf
  simp only [Bool.and_eq_true, decide_eq_true_eq] at hf
  exact ⟨hl, hf.1, fun p hp => (rngP hr p hp).2.2, hf.2⟩
theorem letter_at {L : List Int} {P : List Pr} (F : FaceOk L P) (c : UInt8) (h0 : 65 ≤ c.toNat) (h1 : c.toNat ≤ 90) : wrap64 (rd [rd L 0, rd L 1, rd L 2, rd L 3, rd L 4, rd L 5, rd L 6, rd L 7, rd L 8, rd L 9, rd L 10, rd L 11, rd L 12, rd L 13, rd L 14, rd L 15, rd L 16, rd L 17, rd L 18, rd L 19, rd L 20, rd L 21, rd L 22, rd L 23, rd L 24, rd L 25] (((c.toNat : Int) - 65) % 256)) = wB L c := by
  have e : ((c.toNat : Int) - 65) % 256 = (c.toNat : Int) - 65 := by omega
  have := wB_in F.len F.shape c h0 h1
  rw [e, take26 L _ (by omega) (by omega)]
  exact w64 (by unfold wB at this; omega) (by unfold wB at this; omega)
theorem fletter_eq {L : List Int} {P : List Pr} (F : FaceOk L P) (c : UInt8) (h0 : 65 ≤ c.toNat) (h1 : c.toNat ≤ 90) : impl_Face_letter.f (rd L 0) (rd L 1) (rd L 2) (rd L 3) (rd L 4) (rd L 5) (rd L 6) (rd L 7) (rd L 8) (rd L 9) (rd L 10) (rd L 11) (rd L 12) (rd L 13) (rd L 14) (rd L 15) (rd L 16) (rd L 17) (rd L 18) (rd L 19) (rd L 20) (rd L 21) (rd L 22) (rd L 23) (rd L 24) (rd L 25) (rd L 26) (rd L 27) P (c.toNat : Int) = some (wB L c) := by
  unfold impl_Face_letter.f
  rw [if_pos (by omega), if_pos (by omega), letter_at F c h0 h1]
end Go.Proofs.YticjkfacdmmopaaDoor.Pure
namespace Go.Proofs.YticjkfacdmmopaaDoor.Ext
end Go.Proofs.YticjkfacdmmopaaDoor.Ext
namespace Go.Proofs.YticjkfacdmmopaaDoor.Q
open Go.Proofs.YticjkfacdmmopaaDoor.Ext
open Go.RowKit Go.Proofs.YticjkfacdmmopaaDoorW.PrintWords Go.Proofs.YticjkfacdmmopaaDoorW.PrintLast Go.Proofs.YticjkfacdmmopaaDoorW.PrintMore
attribute [local go_sem] max2_int min2_int max_two min_two max_three min_three max_four min_four
set_option linter.unusedVariables false
set_option linter.unusedSimpArgs false
end Go.Proofs.YticjkfacdmmopaaDoor.Q
namespace Go.Proofs.YticjkfacdmmopaaDoor.Pure
open Go.RowKit Go.Proofs.YticjkfacdmmopaaDoor.Ext Go.Proofs.YticjkfacdmmopaaDoor.Q Go.Proofs.YticjkfacdmmopaaDoor.Txt Go.Proofs.YticjkfacdmmopaaDoor.Face Go.Proofs.YticjkfacdmmopaaDoorW.PrintWords Go.Proofs.YticjkfacdmmopaaDoorW.PrintLast Go.Proofs.YticjkfacdmmopaaDoorW.PrintMore
set_option linter.unusedVariables false
set_option linter.unusedSimpArgs false
set_option maxRecDepth 100000
theorem all28 (L : List Int) (h : L.length = 28) : [rd L 0, rd L 1, rd L 2, rd L 3, rd L 4, rd L 5, rd L 6, rd L 7, rd L 8, rd L 9, rd L 10, rd L 11, rd L 12, rd L 13, rd L 14, rd L 15, rd L 16, rd L 17, rd L 18, rd L 19, rd L 20, rd L 21, rd L 22, rd L 23, rd L 24, rd L 25, rd L 26, rd L 27] = L := by
  have e : [rd L 0, rd L 1, rd L 2, rd L 3, rd L 4, rd L 5, rd L 6, rd L 7, rd L 8, rd L 9, rd L 10, rd L 11, rd L 12, rd L 13, rd L 14, rd L 15, rd L 16, rd L 17, rd L 18, rd L 19, rd L 20, rd L 21, rd L 22, rd L 23, rd L 24, rd L 25, rd L 26, rd L 27] = (List.range 28).map fun n : Nat => rd L (n : Int) := rfl
  rw [e]
  apply List.ext_getElem (by simp [h])
  intro i h1 h2
  rw [List.getElem_map, List.getElem_range, rd_get L i h2]
theorem validFace_eq {L : List Int} {P : List Pr} (hl : L.length = 28) (hr : rngB L P = true) : impl_ValidFace.f (rd L 0) (rd L 1) (rd L 2) (rd L 3) (rd L 4) (rd L 5) (rd L 6) (rd L 7) (rd L 8) (rd L 9) (rd L 10) (rd L 11) (rd L 12) (rd L 13) (rd L 14) (rd L 15) (rd L 16) (rd L 17) (rd L 18) (rd L 19) (rd L 20) (rd L 21) (rd L 22) (rd L 23) (rd L 24) (rd L 25) (rd L 26) (rd L 27) P = some (faceB L P) := by
  unfold impl_ValidFace.f impl_Face_isFace.f isFaceF
  rw [all28 L hl, if_pos hr, Option.bind_some]
  unfold faceB
  cases shapeB L P
  · simp
  · rw [if_pos rfl, Bool.and_true]
    congr 1
    rw [Bool.eq_iff_iff]; simp; omega
theorem l01Face_eq {L : List Int} {P : List Pr} (hl : L.length = 28) (hr : rngB L P = true) : spec_l01Face.f (rd L 0) (rd L 1) (rd L 2) (rd L 3) (rd L 4) (rd L 5) (rd L 6) (rd L 7) (rd L 8) (rd L 9) (rd L 10) (rd L 11) (rd L 12) (rd L 13) (rd L 14) (rd L 15) (rd L 16) (rd L 17) (rd L 18) (rd L 19) (rd L 20) (rd L 21) (rd L 22) (rd L 23) (rd L 24) (rd L 25) (rd L 26) (rd L 27) P = some (faceB L P) := by
  unfold spec_l01Face.f spec_l01Shape.f isFaceF
  rw [all28 L hl, if_pos hr]
  unfold faceB
  by_cases h : P.length ≤ 12
  · rw [if_pos (by omega), Option.bind_some, show decide (P.length ≤ 12) = true by simpa using h, Bool.true_and]
  · rw [if_neg (by omega), show decide (P.length ≤ 12) = false by simpa using h, Bool.false_and]
theorem txt_size {s : ByteArray} (h : txt s.data.toList = true) : s.size ≤ 60 := by
  unfold txt at h
  simp only [Bool.and_eq_true, decide_eq_true_eq] at h
  have := h.1.1
  rwa [data_length] at this
theorem txt_ok {t : List UInt8} (h : txt t = true) : okTxt t := by
  unfold txt at h
  simp only [Bool.and_eq_true, decide_eq_true_eq] at h
  intro b hb
  have := List.all_eq_true.1 h.1.2.1 b hb
  unfold okB at this
  simp only [Bool.or_eq_true, Bool.and_eq_true, decide_eq_true_eq, beq_iff_eq] at this
  exact this.symm
end Go.Proofs.YticjkfacdmmopaaDoor.Pure
namespace Go.Proofs.YticjkfacdmmopaaDoor.Ext
end Go.Proofs.YticjkfacdmmopaaDoor.Ext
namespace Go.Proofs.YticjkfacdmmopaaDoor.Q
open Go.Proofs.YticjkfacdmmopaaDoor.Ext
open Go.RowKit Go.Proofs.YticjkfacdmmopaaDoorW.PrintWords Go.Proofs.YticjkfacdmmopaaDoorW.PrintLast Go.Proofs.YticjkfacdmmopaaDoorW.PrintMore
attribute [local go_sem] max2_int min2_int max_two min_two max_three min_three max_four min_four
set_option linter.unusedVariables false
set_option linter.unusedSimpArgs false
def laws_toPair.f (a0_0 a0_1 a0_2 : Int) : Option (Int × Int × Int) := some (a0_0, a0_1, a0_2)
set_option maxHeartbeats 8000000 in
set_option maxRecDepth 100000 in
theorem laws_toPair.calls (a0_0 a0_1 a0_2 r1 r2 r3 : Int) (w : World) (h : laws_toPair.f a0_0 a0_1 a0_2 = some (r1, r2, r3)) :
    Calls Tryd.prog 120 #[.agg #[.int .u8 a0_0, .int .u8 a0_1, .int .i8 a0_2]] w fun e w' => e = .returned (.agg #[.int .u8 r1, .int .u8 r2, .int .i8 r3]) ∧ Below w.heap.size w w' := by
  have hu139 := Tryd.underlying139
  have hu137 := Tryd.underlying137
  have HB := Aside0.mk (Below.refl w.heap.size w)
  have H : (some (a0_0, a0_1, a0_2)) = some (r1, r2, r3) := h
  clear h
  simp only [Option.some.injEq, Prod.mk.injEq] at H
  obtain ⟨rfl, rfl, rfl⟩ := H
  go_enter Tryd.func120, Tryd.ntmps120
  go_wp2_with (first | ((with_reducible refine gate_dst (N := 1) rfl ?_); refine box_event ?hg (N := 1) ?hd (cs := #[.int .u8 a0_0, .int .u8 a0_1, .int .i8 a0_2]) (t := 139) ?hr ?_; (case hd => rfl); (case hg => rfl); (case hr => first | (go_simp; done) | (go_simp; rfl)); intro gb120 hg w2 hbox hb; have n0_ := Aside0.mk (below_step (by repeat (first | (with_reducible first | exact HB.out | apply below_alloc | apply pw_below_drewN | apply below_drew1) | exact HB.out)) hb); have n1_ := Aside0.mk (hbox); have n2_ := Aside0.mk ((by rw [hg]; exact (below_size (by repeat (first | (with_reducible first | exact HB.out | apply below_alloc | apply pw_below_drewN | apply below_drew1) | exact HB.out))) : w.heap.size ≤ gb120)); have n3_ := Aside0.mk ((by rw [hg]; exact (below_size (by repeat (first | (with_reducible first | exact HB.out | apply below_alloc | apply pw_below_drewN | apply below_drew1) | exact HB.out))) : w.heap.size ≤ gb120)); clear HB; have HB := n0_; have BK120 := n1_; have GW120 := n2_; have GE120 := n3_; clear n0_ n1_ n2_ n3_; clear hb hbox hg) | ((with_reducible refine gate_dst (N := 2) rfl ?_); refine box_event ?hg (N := 2) ?hd (cs := #[.int .u8 0, .int .u8 0, .int .i8 0]) (t := 137) ?hr ?_; (case hd => rfl); (case hg => rfl); (case hr => first | (go_simp; done) | (go_simp; rfl)); intro gb121 hg w3 hbox hb; have n0_ := Aside0.mk (blk_below (g := gb120) (o := .cells #[.int .u8 a0_0, .int .u8 a0_1, .int .i8 a0_2] 139 (0, 0)) (by (with_reducible repeat (first | refine blk_drewN ?_ _ | refine blk_drew ?_ | refine blk_alloc ?_ _)); exact BK120.out) hb); have n1_ := Aside0.mk (below_step (by repeat (first | (with_reducible first | exact HB.out | apply below_alloc | apply pw_below_drewN | apply below_drew1 | refine below_set ?_ GE120.out) | exact HB.out)) hb); have n2_ := Aside0.mk (hbox); have n3_ := Aside0.mk ((by rw [hg]; exact (below_size (by repeat (first | (with_reducible first | exact HB.out | apply below_alloc | apply pw_below_drewN | apply below_drew1 | refine below_set ?_ GE120.out) | exact HB.out))) : w.heap.size ≤ gb121)); have n4_ := Aside0.mk ((by rw [hg]; exact (below_size (by repeat (first | (with_reducible first | exact HB.out | apply below_alloc | apply pw_below_drewN | apply below_drew1 | refine below_set ?_ GE120.out) | exact HB.out))) : w.heap.size ≤ gb121)); have n5_ := Aside0.mk ((by rw [hg]; exact Nat.ne_of_lt (blk_lt (g := gb120) (o := .cells #[.int .u8 a0_0, .int .u8 a0_1, .int .i8 a0_2] 139 (0, 0)) (by (with_reducible repeat (first | refine blk_drewN ?_ _ | refine blk_drew ?_ | refine blk_alloc ?_ _)); exact BK120.out)) : gb120 ≠ gb121)); have n6_ := Aside0.mk ((by rw [hg]; exact Nat.ne_of_gt (blk_lt (g := gb120) (o := .cells #[.int .u8 a0_0, .int .u8 a0_1, .int .i8 a0_2] 139 (0, 0)) (by (with_reducible repeat (first | refine blk_drewN ?_ _ | refine blk_drew ?_ | refine blk_alloc ?_ _)); exact BK120.out)) : gb121 ≠ gb120)); clear BK120; clear HB; have BK120 := n0_; have HB := n1_; have BK121 := n2_; have GW121 := n3_; have GE121 := n4_; have NB120_121 := n5_; have NB121_120 := n6_; clear n0_ n1_ n2_ n3_ n4_ n5_ n6_; clear hb hbox hg) | ((with_reducible refine gate_dst (N := 3) rfl ?_); refine box_event ?hg (N := 3) ?hd (cs := #[.int .u8 0, .int .u8 0, .int .i8 0]) (t := 137) ?hr ?_; (case hd => rfl); (case hg => rfl); (case hr => first | (go_simp; done) | (go_simp; rfl)); intro gb122 hg w4 hbox hb; have n0_ := Aside0.mk (blk_below (g := gb120) (o := .cells #[.int .u8 a0_0, .int .u8 a0_1, .int .i8 a0_2] 139 (0, 0)) (by (with_reducible repeat (first | refine blk_drewN ?_ _ | refine blk_drew ?_ | refine blk_alloc ?_ _)); exact BK120.out) hb); have n1_ := Aside0.mk (blk_below (g := gb121) (o := .cells #[.int .u8 0, .int .u8 0, .int .i8 0] 137 (0, 0)) (by (with_reducible repeat (first | refine blk_drewN ?_ _ | refine blk_drew ?_ | refine blk_alloc ?_ _)); exact BK121.out) hb); have n2_ := Aside0.mk (below_step (by repeat (first | (with_reducible first | exact HB.out | apply below_alloc | apply pw_below_drewN | apply below_drew1 | refine below_set ?_ GE120.out | refine below_set ?_ GE121.out) | exact HB.out)) hb); have n3_ := Aside0.mk (hbox); have n4_ := Aside0.mk ((by rw [hg]; exact (below_size (by repeat (first | (with_reducible first | exact HB.out | apply below_alloc | apply pw_below_drewN | apply below_drew1 | refine below_set ?_ GE120.out | refine below_set ?_ GE121.out) | exact HB.out))) : w.heap.size ≤ gb122)); have n5_ := Aside0.mk ((by rw [hg]; exact (below_size (by repeat (first | (with_reducible first | exact HB.out | apply below_alloc | apply pw_below_drewN | apply below_drew1 | refine below_set ?_ GE120.out | refine below_set ?_ GE121.out) | exact HB.out))) : w.heap.size ≤ gb122)); have n6_ := Aside0.mk ((by rw [hg]; exact Nat.ne_of_lt (blk_lt (g := gb120) (o := .cells #[.int .u8 a0_0, .int .u8 a0_1, .int .i8 a0_2] 139 (0, 0)) (by (with_reducible repeat (first | refine blk_drewN ?_ _ | refine blk_drew ?_ | refine blk_alloc ?_ _)); exact BK120.out)) : gb120 ≠ gb122)); have n7_ := Aside0.mk ((by rw [hg]; exact Nat.ne_of_gt (blk_lt (g := gb120) (o := .cells #[.int .u8 a0_0, .int .u8 a0_1, .int .i8 a0_2] 139 (0, 0)) (by (with_reducible repeat (first | refine blk_drewN ?_ _ | refine blk_drew ?_ | refine blk_alloc ?_ _)); exact BK120.out)) : gb122 ≠ gb120)); have n8_ := Aside0.mk ((by rw [hg]; exact Nat.ne_of_lt (blk_lt (g := gb121) (o := .cells #[.int .u8 0, .int .u8 0, .int .i8 0] 137 (0, 0)) (by (with_reducible repeat (first | refine blk_drewN ?_ _ | refine blk_drew ?_ | refine blk_alloc ?_ _)); exact BK121.out)) : gb121 ≠ gb122)); have n9_ := Aside0.mk ((by rw [hg]; exact Nat.ne_of_gt (blk_lt (g := gb121) (o := .cells #[.int .u8 0, .int .u8 0, .int .i8 0] 137 (0, 0)) (by (with_reducible repeat (first | refine blk_drewN ?_ _ | refine blk_drew ?_ | refine blk_alloc ?_ _)); exact BK121.out)) : gb122 ≠ gb121)); clear BK120; clear BK121; clear HB; have BK120 := n0_; have BK121 := n1_; have HB := n2_; have BK122 := n3_; have GW122 := n4_; have GE122 := n5_; have NB120_122 := n6_; have NB122_120 := n7_; have NB121_122 := n8_; have NB122_121 := n9_; clear n0_ n1_ n2_ n3_ n4_ n5_ n6_ n7_ n8_ n9_; clear hb hbox hg; have hnb5 := NB120_121.out; have hnc5 := NB121_120.out; have hnb6 := NB120_122.out; have hnc6 := NB122_120.out; have hcz7_0 : w4.cell? ⟨gb120, 0, none⟩ = some (.int .u8 a0_0) := (blk_cell BK120.out 0).trans rfl; have hcz7_1 : w4.cell? ⟨gb120, 1, none⟩ = some (.int .u8 a0_1) := (blk_cell BK120.out 1).trans rfl; have hcz7_2 : w4.cell? ⟨gb120, 2, none⟩ = some (.int .i8 a0_2) := (blk_cell BK120.out 2).trans rfl; have hfz7_0 := blk_frozen BK120.out 0; have hfz7_1 := blk_frozen BK120.out 1; have hfz7_2 := blk_frozen BK120.out 2; have hnb8 := NB122_121.out; have hnc8 := NB121_122.out; have hcz9_0 : w4.cell? ⟨gb122, 0, none⟩ = some (.int .u8 0) := (blk_cell BK122.out 0).trans rfl; have hcz9_1 : w4.cell? ⟨gb122, 1, none⟩ = some (.int .u8 0) := (blk_cell BK122.out 1).trans rfl; have hcz9_2 : w4.cell? ⟨gb122, 2, none⟩ = some (.int .i8 0) := (blk_cell BK122.out 2).trans rfl; have hfz9_0 := blk_frozen BK122.out 0; have hfz9_1 := blk_frozen BK122.out 1; have hfz9_2 := blk_frozen BK122.out 2; have hcz10_0 : w4.cell? ⟨gb121, 0, none⟩ = some (.int .u8 0) := (blk_cell BK121.out 0).trans rfl; have hcz10_1 : w4.cell? ⟨gb121, 1, none⟩ = some (.int .u8 0) := (blk_cell BK121.out 1).trans rfl; have hcz10_2 : w4.cell? ⟨gb121, 2, none⟩ = some (.int .i8 0) := (blk_cell BK121.out 2).trans rfl; have hfz10_0 := blk_frozen BK121.out 0; have hfz10_1 := blk_frozen BK121.out 1; have hfz10_2 := blk_frozen BK121.out 2))
  refine bodyPost_ret (results_cell_row rfl _ _ gb121 137 #[.int .u8 a0_0, .int .u8 a0_1, .int .i8 a0_2] (0, 0) _ rfl (by (with_reducible repeat (first | refine blk_drewN ?_ _ | refine blk_drew ?_ | refine blk_alloc ?_ _)); refine blk_put (cs := #[.int .u8 a0_0, .int .u8 a0_1, .int .i8 0]) ?_ 2 _ rfl; (with_reducible repeat (first | refine blk_drewN ?_ _ | refine blk_drew ?_ | refine blk_alloc ?_ _)); refine blk_put (cs := #[.int .u8 a0_0, .int .u8 0, .int .i8 0]) ?_ 1 _ rfl; (with_reducible repeat (first | refine blk_drewN ?_ _ | refine blk_drew ?_ | refine blk_alloc ?_ _)); refine blk_put (cs := #[.int .u8 0, .int .u8 0, .int .i8 0]) ?_ 0 _ rfl; (with_reducible repeat (first | refine blk_drewN ?_ _ | refine blk_drew ?_ | refine blk_alloc ?_ _)); refine blk_far ?_ NB121_122.out _; (with_reducible repeat (first | refine blk_drewN ?_ _ | refine blk_drew ?_ | refine blk_alloc ?_ _)); refine blk_far ?_ NB121_122.out _; (with_reducible repeat (first | refine blk_drewN ?_ _ | refine blk_drew ?_ | refine blk_alloc ?_ _)); refine blk_far ?_ NB121_122.out _; (with_reducible repeat (first | refine blk_drewN ?_ _ | refine blk_drew ?_ | refine blk_alloc ?_ _)); exact BK121.out) Tryd.underlying137 rfl (by kernel_rfl)) rfl ?_
  exact ⟨by first | rfl | (simp [errW_none, errW_some] <;> rfl) | (simp [*, errW_none, errW_some] <;> rfl), by repeat (first | (with_reducible first | exact HB.out | apply below_alloc | apply pw_below_drewN | apply below_drew1 | refine below_set ?_ GE120.out | refine below_set ?_ GE121.out | refine below_set ?_ GE122.out) | exact HB.out)⟩
def laws_toPairS.l0 : Nat → List (S139) → List (S137) → Int → Option ((List (S137)))
  | 0, _, _, _ => none
  | k + 1, x0, x3, x4 => if x4 < (x0.length : Int) then (if 0 ≤ x4 then ((laws_toPair.f ((rd_T139 x0 x4).f0) ((rd_T139 x0 x4).f1) ((rd_T139 x0 x4).f2)).bind fun bt127 => (if x4 < (x3.length : Int) then (laws_toPairS.l0 k x0 (x3.set (x4 : Int).toNat (⟨bt127.1, bt127.2.1, bt127.2.2⟩ : S137)) (wrap64 (x4 + 1))) else (none))) else (none)) else (some x3)
def laws_toPairS.f (k : Nat) (l0 : List (S139)) : Option ((List (S137))) := if 0 ≤ (l0.length : Int) then (if ((l0.length : Int) : Int).toNat ≤ 93824992236885 then (laws_toPairS.l0 k l0 (List.replicate ((l0.length : Int) : Int).toNat z137) 0) else (none)) else (none)
theorem laws_toPairS.mono_l : ∀ k, (∀ y0 y1 y2, LeO (laws_toPairS.l0 k y0 y1 y2) (laws_toPairS.l0 (k + 1) y0 y1 y2))
  | 0 => fun _ _ _ r h => by simp [laws_toPairS.l0] at h
  | k + 1 => by
    have ih0 := laws_toPairS.mono_l k
    · intro y0 y1 y2
      unfold laws_toPairS.l0
      repeat' first
      | (with_reducible exact ih0 _ _ _)
      | (with_reducible exact LeO.refl _)
      | (with_reducible exact LeO.none _)
      | (with_reducible refine LeO.ite ?_ ?_)
      | (with_reducible refine LeO.bind ?_ (fun _ => ?_))
      | exact ih0 _ _ _
      | exact LeO.none _
      | refine LeO.ite ?_ ?_
      | refine LeO.bind ?_ (fun _ => ?_)
theorem laws_toPairS.mono : ∀ a0 k, LeO (laws_toPairS.f k a0) (laws_toPairS.f (k + 1) a0) := by
  intro a0 k
  have ih0 := laws_toPairS.mono_l k
  unfold laws_toPairS.f
  repeat' first
      | (with_reducible exact ih0 _ _ _)
      | (with_reducible exact LeO.refl _)
      | (with_reducible exact LeO.none _)
      | (with_reducible refine LeO.ite ?_ ?_)
      | (with_reducible refine LeO.bind ?_ (fun _ => ?_))
      | exact ih0 _ _ _
      | exact LeO.none _
      | refine LeO.ite ?_ ?_
      | refine LeO.bind ?_ (fun _ => ?_)
set_option maxHeartbeats 8000000 in
set_option maxRecDepth 100000 in
theorem laws_toPairS.calls (k : Nat) (A0 : Option Addr) (c0 : Nat) (l0 : List (S139)) (r : List (S137)) (w : World) (hr0 : Kd.C k139 w A0 l0.length l0) (hc0 : l0.length ≤ c0) (h : laws_toPairS.f k l0 = some r) :
    Calls Tryd.prog 67 #[.slice A0 l0.length c0] w fun e w' => ∃ v0_ : Value, e = .returned (v0_) ∧ Kd.R k137 137 w' w.heap.size (fun _ => True) v0_ r ∧ Below w.heap.size w w' := by
  have hu139 := Tryd.underlying139
  have hu137 := Tryd.underlying137
  have HR0 := Aside0.mk hr0
  have HC0 := Aside0.mk hc0
  clear hr0 hc0
  have HB := Aside0.mk (Below.refl w.heap.size w)
  have H : (if 0 ≤ (l0.length : Int) then (if ((l0.length : Int) : Int).toNat ≤ 93824992236885 then (laws_toPairS.l0 k l0 (List.replicate ((l0.length : Int) : Int).toNat z137) 0) else (none)) else (none)) = some r := h
  clear h
  by_cases c2 : 0 ≤ (l0.length : Int)
  · rw [if_pos c2] at H
    have c2b0 := eq_true c2
    have c2b1 : decide (0 ≤ (l0.length : Int)) = true := decide_eq_true c2
    clear c2
    by_cases c3 : ((l0.length : Int) : Int).toNat ≤ 93824992236885
    · rw [if_pos c3] at H
      have c3b0 := eq_true c3
      have c3b1 : decide (((l0.length : Int) : Int).toNat ≤ 93824992236885) = true := decide_eq_true c3
      clear c3
      obtain ⟨y123, hy123⟩ : ∃ y_ : List (S137), y_ = (List.replicate ((l0.length : Int) : Int).toNat z137) := ⟨_, rfl⟩
      replace H : (laws_toPairS.l0 k l0 y123 0) = some r := by first | (rw [hy123]; with_reducible exact H) | (have H2_ := (Option.bind_some _ _).symm.trans H; rw [hy123]; with_reducible exact H2_) | (have H2_ := (Option.bind_some _ _).symm.trans H; with_reducible exact H2_) | with_reducible exact H | (rw [hy123]; exact H) | exact H
      have Ny123 := Aside0.mk hy123
      clear hy123
      have H' := Aside0.mk H
      clear H
      go_enter Tryd.func67, Tryd.ntmps67
      go_wp2_with (first | ((with_reducible refine gate_dst (N := 7) rfl ?_); refine Kd.R_make k137 _ 137 rfl (N := 7) rfl 30 _ _ rfl (l0.length : Int) rfl rfl Tryd.underlying30 (.agg #[(.int .u8 0), (.int .u8 0), (.int .i8 0)]) 3 info137 rfl (by decide) (by omega) z137 (ok := fun _ => True) (okp := fun _ => True) (k137_mkM _ _ _ z137 ) (fun _ hk => hk) trivial (of_decide_eq_true (by first | (with_reducible assumption) | assumption)) (Nat.le_trans (Nat.mul_le_mul_right _ (of_decide_eq_true (by first | (with_reducible assumption) | assumption) : (l0.length : Int).toNat ≤ 93824992236885)) (by omega)) (Below.refl _ _) (Nat.le_refl _) ?_; intro v124 w4 ho5 hb hg_ hnew_; clear hg_ hnew_; (first | rw [← Ny123.out] at ho5 | (simp only [Int.reduceToNat] at ho5; rw [← Ny123.out] at ho5)); have n0_ := Aside0.mk (Kd.R_lower ho5 (below_size (by repeat (first | (with_reducible first | exact HB.out | apply below_alloc | apply pw_below_drewN | apply below_drew1) | exact HB.out)))); have n1_ := Aside0.mk (below_step (by repeat (first | (with_reducible first | exact HB.out | apply below_alloc | apply pw_below_drewN | apply below_drew1) | exact HB.out)) hb); clear HB; have HO125 := n0_; have HB := n1_; clear n0_ n1_; clear hb ho5))
      go_loopg [4] k (fun kq v4 w' => ∃ (x3_1 : List (S137)) (x4_1 : Int), v4 = .int .i64 x4_1 ∧ Aside0 (laws_toPairS.l0 kq l0 x3_1 x4_1 = some r) ∧ Aside0 (kq ≤ k) ∧ Aside0 (Kd.R k137 137 w' w.heap.size (fun _ => True) v124 x3_1) ∧ Aside0 (Below w.heap.size w w'))
      case atStart => exact ⟨(y123), (0), (by first | rfl | (simp; done) | (simp [*]; done)), H', ⟨Nat.le_refl _⟩, ⟨by (with_reducible repeat (first | apply Kd.R_alloc | apply Kd.R_drewN | apply Kd.R_drew)); exact HO125.out⟩, ⟨by repeat (first | (with_reducible first | exact HB.out | apply below_alloc | apply pw_below_drewN | apply below_drew1) | exact HB.out)⟩⟩
      case round =>
        clear H'
        try clear c2
        try clear c2b0
        try clear c2b1
        try clear p2
        try clear c3
        try clear c3b0
        try clear c3b1
        obtain ⟨x3_1, x4_1, rfl, HA, HK1, HO_3, HB⟩ := hrel
        cases gk with
        | zero => exact absurd HA.out (by simp [laws_toPairS.l0])
        | succ k1 =>
          have H := HA.out
          clear HA
          simp only [laws_toPairS.l0] at H
          by_cases c6 : x4_1 < (l0.length : Int)
          · rw [if_pos c6] at H
            have c6b0 : decide (x4_1 < (l0.length : Int)) = true := decide_eq_true c6
            clear c6
            by_cases c7 : 0 ≤ x4_1
            · rw [if_pos c7] at H
              have c7b0 : decide (0 ≤ x4_1) = true := decide_eq_true c7
              clear c7
              replace H := Option.bind_eq_some_iff.mp H
              obtain ⟨⟨t127, t128, t129⟩, A80, H⟩ := H
              replace H : (if x4_1 < (x3_1.length : Int) then (laws_toPairS.l0 k1 l0 (x3_1.set (x4_1 : Int).toNat (⟨t127, t128, t129⟩ : S137)) (wrap64 (x4_1 + 1))) else (none)) = some r := H
              have A8 := Aside0.mk A80
              clear A80
              by_cases c9 : x4_1 < (x3_1.length : Int)
              · rw [if_pos c9] at H
                have c9b0 : decide (x4_1 < (x3_1.length : Int)) = true := decide_eq_true c9
                clear c9
                obtain ⟨y130, hy130⟩ : ∃ y_ : List (S137), y_ = (x3_1.set (x4_1 : Int).toNat (⟨t127, t128, t129⟩ : S137)) := ⟨_, rfl⟩
                replace H : (laws_toPairS.l0 k1 l0 y130 (wrap64 (x4_1 + 1))) = some r := by first | (rw [hy130]; with_reducible exact H) | (have H2_ := (Option.bind_some _ _).symm.trans H; rw [hy130]; with_reducible exact H2_) | (have H2_ := (Option.bind_some _ _).symm.trans H; with_reducible exact H2_) | with_reducible exact H | (rw [hy130]; exact H) | exact H
                have Ny130 := Aside0.mk hy130
                clear hy130
                have H' := Aside0.mk H
                clear H
                have p126 : 0 ≤ (x4_1 : Int) := of_decide_eq_true (by first | (with_reducible assumption) | assumption)
                have q126 : x4_1 < (l0.length : Int) := of_decide_eq_true (by first | (with_reducible assumption) | assumption)
                obtain ⟨ad126, e126, hx126_0, hx126_1, hx126_2⟩ := at_T139 HR0.out x4_1 p126 q126
                cases e126
                replace hx126_0 := (HB.out.cell (World.block_lt_of_cell? w _ hx126_0)).trans hx126_0
                replace hx126_1 := (HB.out.cell (World.block_lt_of_cell? w _ hx126_1)).trans hx126_1
                replace hx126_2 := (HB.out.cell (World.block_lt_of_cell? w _ hx126_2)).trans hx126_2
                replace p126 := eq_true p126
                replace q126 := eq_true q126
                go_wp2_with (first | ((with_reducible refine gate_callee (f := 120) rfl ?_); refine goesL_ (some 20) rfl rfl Tryd.func120 (by kernel_rfl) rfl #[.agg #[.int .u8 ((rd_T139 l0 x4_1).f0), .int .u8 ((rd_T139 l0 x4_1).f1), .int .i8 ((rd_T139 l0 x4_1).f2)]] rfl (by (try simp only [List.map_toArray, List.map_cons, List.map_nil]); first | done | rfl | (simp only [List.length_drop, List.length_take]; rfl)) ?_; (with_reducible refine (laws_toPair.calls ((rd_T139 l0 x4_1).f0) ((rd_T139 l0 x4_1).f1) ((rd_T139 l0 x4_1).f2) t127 t128 t129 _ A8.out).mono ?_); rintro e w11 ⟨rfl, hb⟩; refine ⟨_, rfl, ?_⟩; have n0_ := Aside0.mk (Kd.R_below (by (with_reducible repeat (first | apply Kd.R_alloc | apply Kd.R_drewN | apply Kd.R_drew)); exact HO_3.out) hb); have n1_ := Aside0.mk (below_step (by repeat (first | (with_reducible first | exact HB.out | apply below_alloc | apply pw_below_drewN | apply below_drew1) | exact HB.out)) hb); clear HO_3; clear HB; have HO_3 := n0_; have HB := n1_; clear n0_ n1_; (try clear hb); (try clear hb2); (try clear hk); (try clear hi); have p10 : 0 ≤ (x4_1 : Int) := of_decide_eq_true (by first | (with_reducible assumption) | assumption); have q10 : (x4_1 : Int) < ((x3_1.length : Int) : Int) := of_decide_eq_true (by first | (with_reducible assumption) | assumption); obtain ⟨go10, co10, eo10, gb10, gl10, cl10, HG10⟩ := Kd.R_form HO_3.out (by omega); (first | cases eo10 | (injection eo10 with ea_ en_ ec_; (first | subst ea_ | (injection ea_ with ea_; subst ea_)); subst ec_; clear en_)); have GB10 := Aside0.mk gb10; have GG10 := Aside0.mk HG10; clear gb10 gl10 HG10; obtain ⟨ce10, hcl10, hM10, hcc10, hfr10⟩ := Kd.R_elem HO_3.out z137 (x4_1 : Int) p10 q10; obtain rfl := k137_openM hM10; have hx10_0 : w11.cell? ⟨go10, (x4_1 : Int).toNat * 3, none⟩ = some (.int .u8 ((rd_T137 x3_1 x4_1).f0)) := hcc10 0 _ rfl; have hx10_1 : w11.cell? ⟨go10, (x4_1 : Int).toNat * 3 + 1, none⟩ = some (.int .u8 ((rd_T137 x3_1 x4_1).f1)) := hcc10 1 _ rfl; have hx10_2 : w11.cell? ⟨go10, (x4_1 : Int).toNat * 3 + 2, none⟩ = some (.int .i8 ((rd_T137 x3_1 x4_1).f2)) := hcc10 2 _ rfl; have hf10_0 : w11.frozen? ⟨go10, (x4_1 : Int).toNat * 3, none⟩ = false := hfr10 0; have hf10_1 : w11.frozen? ⟨go10, (x4_1 : Int).toNat * 3 + 1, none⟩ = false := hfr10 1; have hf10_2 : w11.frozen? ⟨go10, (x4_1 : Int).toNat * 3 + 2, none⟩ = false := hfr10 2; clear hcl10 hcc10 hfr10 hM10; replace p10 := eq_true p10; replace q10 := eq_true q10; have HX12 := Aside0.mk (show Kd.R k137 137 w11 w.heap.size (fun _ => True) (.slice (some ⟨go10, 0, none⟩) x3_1.length co10) x3_1 from (by (with_reducible repeat (first | apply Kd.R_alloc | apply Kd.R_drewN | apply Kd.R_drew)); exact HO_3.out)); obtain ⟨ce12, hcl12, hM12, hcc12, hfr12⟩ := Kd.R_elem HX12.out z137 (x4_1 : Int) (of_decide_eq_true (by first | (with_reducible assumption) | assumption)) (by have h_ : (x4_1 : Int) < ((x3_1.length : Int) : Int) := of_decide_eq_true (by first | (with_reducible assumption) | assumption); first | exact h_ | (have e_ := (Kd.R_reads' HO_3.out).1; omega) | simpa using h_); obtain rfl := k137_openM hM12; have HP12 := Kd.R_seg HX12.out (x4_1 : Int) (of_decide_eq_true (by first | (with_reducible assumption) | assumption)) (by have h_ : (x4_1 : Int) < ((x3_1.length : Int) : Int) := of_decide_eq_true (by first | (with_reducible assumption) | assumption); first | exact h_ | (have e_ := (Kd.R_reads' HO_3.out).1; omega) | simpa using h_) (seg := [.int .u8 t127, .int .u8 t128, .int .i8 t129]) (j := 0) hcl12 hcc12 (show 3 ≤ 3 from by decide) (x' := (⟨t127, t128, t129⟩ : S137)) (k137_mkM _ _ _ (⟨t127, t128, t129⟩ : S137) ) (fun _ hk => hk); have hx12_0 := hcc12 0 _ rfl; (try simp only [show (k137).sz = 3 from rfl, Nat.mul_one, Nat.add_zero] at hx12_0); have hf12_0 := hfr12 0; (try simp only [show (k137).sz = 3 from rfl, Nat.mul_one, Nat.add_zero] at hf12_0); have hx12_1 := hcc12 1 _ rfl; (try simp only [show (k137).sz = 3 from rfl, Nat.mul_one, Nat.add_zero] at hx12_1); have hf12_1 := hfr12 1; (try simp only [show (k137).sz = 3 from rfl, Nat.mul_one, Nat.add_zero] at hf12_1); have hx12_2 := hcc12 2 _ rfl; (try simp only [show (k137).sz = 3 from rfl, Nat.mul_one, Nat.add_zero] at hx12_2); have hf12_2 := hfr12 2; (try simp only [show (k137).sz = 3 from rfl, Nat.mul_one, Nat.add_zero] at hf12_2); clear hcl12 hcc12 hfr12 hM12) | ((with_reducible refine gate_store (t := 137) (p := 21) rfl ?_); refine store_event (t := 137) (p := 21) (v := ?vo_w13) (w1 := (((w11.setCell ⟨go10, (x4_1 : Int).toNat * 3, none⟩ (.int .u8 t127)).setCell ⟨go10, (x4_1 : Int).toNat * 3 + 1, none⟩ (.int .u8 t128)).setCell ⟨go10, (x4_1 : Int).toNat * 3 + 2, none⟩ (.int .i8 t129))) ?hg ?ho ?hn ?hr ?_; (case ho => rfl); (case hg => rfl); (case hn => rfl); (case hr => first | (go_simp; done) | (go_simp; rfl)); intro w13 hw; have hg : w11.grownBy w13 (some go10) := (by rw [hw]; exact HP12.2); have hp_ : Kd.R k137 137 w13 w.heap.size (fun _ => True) (.slice (some ⟨go10, 0, none⟩) x3_1.length co10) y130 := (by rw [hw, Ny130.out]; exact HP12.1); clear HP12; have n0_ := Aside0.mk (hp_); have n1_ := Aside0.mk ((by rw [hw]; exact below_set (below_set (below_set (HB.out) GB10.out) GB10.out) GB10.out : Below w.heap.size w w13)); clear HO_3; clear HB; have HO_3 := n0_; have HB := n1_; clear n0_ n1_; clear hg hw hp_))
                go_roundg k1
                case measure => have := HK1.out; omega
                case rel => exact ⟨(y130), (wrap64 (x4_1 + 1)), (by first | rfl | (simp; done) | (simp [*]; done)), H', ⟨by have := HK1.out; omega⟩, ⟨by (with_reducible repeat (first | apply Kd.R_alloc | apply Kd.R_drewN | apply Kd.R_drew)); exact HO_3.out⟩, ⟨by repeat (first | (with_reducible first | exact HB.out | apply below_alloc | apply pw_below_drewN | apply below_drew1) | exact HB.out)⟩⟩
              · rw [if_neg c9] at H
                exact absurd H (by simp)
            · rw [if_neg c7] at H
              exact absurd H (by simp)
          · rw [if_neg c6] at H
            have c6b0 : decide (x4_1 < (l0.length : Int)) = false := decide_eq_false c6
            clear c6
            obtain rfl := Option.some.inj H
            go_wp2
            go_ret
            exact ⟨_, by first | rfl | (simp [errW_none, errW_some] <;> rfl) | (simp [*, errW_none, errW_some] <;> rfl), by (with_reducible repeat (first | apply Kd.R_alloc | apply Kd.R_drewN | apply Kd.R_drew)); exact HO_3.out, by repeat (first | (with_reducible first | exact HB.out | apply below_alloc | apply pw_below_drewN | apply below_drew1) | exact HB.out)⟩
    · rw [if_neg c3] at H
      exact absurd H (by simp)
  · rw [if_neg c2] at H
    exact absurd H (by simp)
end Go.Proofs.YticjkfacdmmopaaDoor.Q
namespace Go.Proofs.YticjkfacdmmopaaDoor.Ext
open Go.RowKit Go.Proofs.YticjkfacdmmopaaDoor.Q Go.Proofs.YticjkfacdmmopaaDoor.Face Go.Proofs.YticjkfacdmmopaaDoorW.PrintWords Go.Proofs.YticjkfacdmmopaaDoorW.PrintLast Go.Proofs.YticjkfacdmmopaaDoorW.PrintMore
set_option linter.unusedVariables false
set_option linter.unusedSimpArgs false
theorem ev_store_part {P : Program} {ops : Array Oper} {rest : List Oper} {o : Oper} {a : Act} {Q : Exit → Act → World → Prop} {W : World} (hgd : o.guard = none) (ty : TypeId) (x y : Operand) (ho : o.op = .store ty x y) (hN : o.dst = none)
    (g off : Nat) (cs vs : Array Value) (hx : a.eval x = .pointer (some ⟨g, off, none⟩)) (hy : a.eval y = .agg vs) (t : TypeId) (hg : W.heap[g]? = some (.cells cs t (0, 0))) (hi : (P.info? ty).map (·.size) = some vs.size) (hfit : off + vs.size ≤ cs.size)
    (h1 : ∀ v ∈ vs.toList, v.oneCell' = true)
    (h : ∀ w1, w1.heap[g]? = some (.cells ((cs.toList.take off ++ vs.toList ++ cs.toList.drop (off + vs.size)).toArray) t (0, 0)) → Kept W w1 (fun k => k = g) → (∀ B, B ≤ g → Below B W w1) → wpList P ops Q rest a w1) : wpList P ops Q (o :: rest) a W := by
  have hst := run_storeCells_at P g off t vs.toList 0 cs W hg (by simpa using hfit) h1
  have hrun : (storeVar ty ⟨g, off, none⟩ (.agg vs)).run P W = .ok () (W.setRow g ((cs.toList.take off ++ vs.toList ++ cs.toList.drop (off + vs.size)).toArray)) := by
    cases hq : P.info? ty with
    | none => simp [hq] at hi
    | some i =>
      have hs : vs.size = i.size := by simp [hq] at hi; omega
      simp only [Nat.add_zero, Array.length_toList] at hst
      simp [storeVar, sizeOf, typeInfo, hq, Value.cells, hs, hst]
  refine wpList_plain hgd fun K hK => ?_
  unfold Oper.wp execOp
  simp only [ho, hx, hy, Instr.storeAt, Instr.sureAddr, Sem.run_bind, Sem.run_pure, Result.andThen_ok, hrun]
  refine hK _ _ ?_
  have e : a.put o.dst undef = a := by rw [hN]; rfl
  rw [e]
  refine h _ (setRow_heap W g cs _ t (0, 0) hg) ⟨by simp, fun i hi hn => setRow_other W g i _ hn⟩ (fun B hB => ⟨rfl, rfl, rfl, by simp, fun k hk => setRow_other W g k _ (by omega)⟩)
theorem range_faceT {w : World} {g : Nat} {t : TypeId} {l : List Int} {A : Option Addr} {n c : Nat} (h : w.heap[g]? = some (.cells (faceV l A n c) t (0, 0))) (m : Nat) (hm : m ≤ l.length) : w.rangeAt g 0 (nums .i8 (l.take m)) := by
  intro j v hv
  have hj : j < (nums .i8 (l.take m)).length := (List.getElem?_eq_some_iff.1 hv).1
  have hj' : j < m := by simp [nums] at hj; omega
  rw [Nat.zero_add, face_cell h j (by omega), ← hv]
  simp only [nums, List.getElem?_map, List.getElem?_take, hj', if_true, List.getElem?_eq_getElem (show j < l.length by omega), Option.map_some, rd, Int.toNat_natCast, List.getD_eq_getElem?_getD, Option.getD_some]
theorem cellFT {w : World} {g : Nat} {t : TypeId} {l : List Int} {A : Option Addr} {n c : Nat} (h : w.heap[g]? = some (.cells (faceV l A n c) t (0, 0))) (j : Nat) (hj : j < l.length) {x : Int} (hx : rd l j = x) : w.cell? ⟨g, j, none⟩ = some (.int .i8 x) := by
  rw [← hx]; exact face_cell h j hj
theorem info_26T : (Tryd.prog.info? 23).map (·.size) = some 26 := by kernel_rfl
theorem info_faceT : (Tryd.prog.info? 32).map (·.size) = some 29 := by kernel_rfl
def toP (p : LP) : Pr := ⟨p.f0, p.f1, p.f2⟩
theorem rd_take_succ {α : Type} (l : List α) (n : Nat) (d : α) (h : n < l.length) : l.take (n + 1) = l.take n ++ [l.getD n d] := by
  rw [List.take_succ_eq_append_getElem h, List.getD_eq_getElem?_getD, List.getElem?_eq_getElem h]
  rfl
theorem toPairS_l0 (l : List LP) (hl : l.length ≤ 4611686018427387904) : ∀ (d k n : Nat) (x : List Pr), n + d = l.length → d < k → x.length = l.length → x.take n = (l.take n).map toP →
    laws_toPairS.l0 k l x n = some (l.map toP)
  | 0, k, n, x, hd, hk, hx, ht => by
    obtain ⟨k, rfl⟩ : ∃ m, k = m + 1 := ⟨k - 1, by omega⟩
    simp only [laws_toPairS.l0]
    rw [if_neg (by omega)]
    obtain rfl : n = l.length := by omega
    rw [List.take_length, ← hx, List.take_length] at ht
    rw [ht]
  | d + 1, k, n, x, hd, hk, hx, ht => by
    obtain ⟨k, rfl⟩ : ∃ m, k = m + 1 := ⟨k - 1, by omega⟩
    simp only [laws_toPairS.l0, laws_toPair.f, Option.bind_some]
    have hw : wrap64 ((n : Int) + 1) = ((n + 1 : Nat) : Int) := by unfold wrap64; omega
    rw [if_pos (by omega), if_pos (by omega), if_pos (by omega), hw]
    refine toPairS_l0 l hl d k (n + 1) _ (by omega) (by omega) (by simpa using hx) ?_
    have hset : (x.set (n : Int).toNat (⟨(rd_T139 l n).f0, (rd_T139 l n).f1, (rd_T139 l n).f2⟩ : Pr)).take (n + 1) = x.take n ++ [⟨(rd_T139 l n).f0, (rd_T139 l n).f1, (rd_T139 l n).f2⟩] := by
      rw [Int.toNat_natCast, List.take_succ_eq_append_getElem (by simp; omega), List.take_set, List.set_eq_of_length_le (by simp; omega)]
      simp
    rw [hset, ht, rd_take_succ l n z139 (by omega), List.map_append]
    rfl
theorem toPairS_eq (l : List LP) (hl : l.length ≤ 1048576) : laws_toPairS.f (l.length + 1) l = some (l.map toP) := by
  unfold laws_toPairS.f
  rw [if_pos (by omega), if_pos (by omega)]
  exact toPairS_l0 l (by omega) l.length _ 0 _ (by omega) (by omega) (by simp) (by simp)
theorem cell_push {w : World} {g : Nat} {t : TypeId} {l : List Int} {v : Value} (h : w.heap[g]? = some (.cells ((cellsK .i8 l).push v) t (0, 0))) (j : Nat) (hj : j < l.length) : w.cell? ⟨g, j, none⟩ = some (.int .i8 (rd l j)) := by
  rw [blk_cell h j, Array.getElem?_push_lt (by rw [cellsK_size]; exact hj)]
  have h2 := cellsK_get .i8 l j hj
  rw [Array.getElem?_eq_getElem (by rw [cellsK_size]; exact hj)] at h2
  exact h2
theorem cell_push_last {w : World} {g m : Nat} {t : TypeId} {l : List Int} {v : Value} (h : w.heap[g]? = some (.cells ((cellsK .i8 l).push v) t (0, 0))) (hm : l.length = m) : w.cell? ⟨g, m, none⟩ = some v := by
  rw [blk_cell h m]
  subst hm
  rw [← cellsK_size .i8 l]
  exact Array.getElem?_push_size
theorem put26 (l : List Int) (h : l.length = 26) : ((faceV (List.replicate 28 0) none 0 0).toList.take 0 ++ (cellsK .i8 l).toList ++ (faceV (List.replicate 28 0) none 0 0).toList.drop (0 + (cellsK .i8 l).size)).toArray = (cellsK .i8 (l ++ [0, 0])).push (.slice none 0 0) := by
  rw [cellsK_size, h]
  apply Array.toList_inj.1
  rw [Array.toList_push]
  simp [cellsK, nums]
  rfl
theorem set2 (l : List Int) (h : l.length = 26) (a b : Int) (s : Value) : (((cellsK .i8 (l ++ [0, 0])).push s).setIfInBounds 26 (.int .i8 a)).setIfInBounds 27 (.int .i8 b) = (cellsK .i8 (l ++ [a, b])).push s := by
  apply Array.toList_inj.1
  simp only [Array.toList_setIfInBounds, Array.toList_push, cellsK, nums, List.map_append, List.map_cons, List.map_nil]
  rw [List.append_assoc, List.set_append_right _ _ (by simp; omega)]
  rw [List.set_append_right _ _ (by simp; omega)]
  simp [h]
theorem set28 (l : List Int) (h : l.length = 28) (s v : Value) : ((cellsK .i8 l).push s).setIfInBounds 28 v = (cellsK .i8 l).push v := by
  apply Array.toList_inj.1
  simp only [Array.toList_setIfInBounds, Array.toList_push, cellsK, nums]
  rw [List.set_append_right _ _ (by simp; omega)]
  simp [h]
theorem push_one {v : Value} (h : v.oneCell' = true) (L : List Int) : ((cellsK .i8 L).push v).all (·.oneCell') = true := by
  have h1 := cellsK_one .i8 L
  rw [Array.all_eq_true_iff_forall_mem] at h1 ⊢
  intro x hx
  rw [Array.mem_push] at hx
  rcases hx with hx | rfl
  · exact h1 x hx
  · exact h
set_option maxRecDepth 100000 in
set_option maxHeartbeats 2000000 in
theorem toFace_calls (L : List Int) (hL : L.length = 28) (A : Option Addr) (c : Nat) (P : List LP) (hP : P.length ≤ 1048576) (hc : P.length ≤ c) (w : World) (hr : Kd.C kLP w A P.length P) :
    Calls Tryd.prog 20 #[.agg (faceV L A P.length c)] w fun e w' => ∃ v : Value, e = .returned (.agg ((cellsK .i8 L).push v)) ∧ Kd.R kPr 137 w' w.heap.size (fun _ => True) v (P.map toP) ∧ Below w.heap.size w w' := by
  obtain ⟨a, ha⟩ : ∃ a, rd L (26 : Nat) = a := ⟨_, rfl⟩
  obtain ⟨b, hbb⟩ : ∃ b, rd L (27 : Nat) = b := ⟨_, rfl⟩
  have hsplit : L.take 26 ++ [a, b] = L := by
    have h2 : L.drop 26 = [a, b] := by
      apply List.ext_getElem (by simp; omega)
      intro i h1 h2
      rw [List.getElem_drop]
      have h3 : i = 0 ∨ i = 1 := by simp at h2; omega
      rcases h3 with rfl | rfl
      · simp [← ha, rd, List.getD_eq_getElem?_getD, List.getElem?_eq_getElem (show 26 < L.length by omega)]
      · simp [← hbb, rd, List.getD_eq_getElem?_getD, List.getElem?_eq_getElem (show 27 < L.length by omega)]
    rw [← h2]
    exact List.take_append_drop 26 L
  have HS := Aside0.mk hsplit
  have HI : Aside0 ((Tryd.prog.info? 23).map (·.size) = some (nums .i8 (L.take 26)).length) := ⟨by rw [show (nums .i8 (L.take 26)).length = 26 by simp [nums]; omega]; exact info_26T⟩
  have HL := Aside0.mk hL
  have HR := Aside0.mk hr
  have HC := Aside0.mk hc
  have HPl := Aside0.mk hP
  have Ha := Aside0.mk ha
  have Hb := Aside0.mk hbb
  have H0 := Aside0.mk (blk_new w (.cells (faceV L A P.length c) 26))
  have HB := Aside0.mk (below_alloc (Below.refl w.heap.size w) (.cells (faceV L A P.length c) 26))
  clear ha hbb hL hr hc hP hsplit
  go_enter Tryd.func20, Tryd.ntmps20
  go_wp2_with (first | ((with_reducible refine gate_dst (N := 5) rfl ?_); refine wpList_load_mid rfl 23 (.tmp 4) rfl w.heap.size 0 rfl (nums .i8 (L.take 26)) _ (range_faceT (blk_alloc (blk_alloc H0.out _) _) 26 (by have := HL.out; omega)) Tryd.underlying23 rfl HI.out ?_) | fail)
  refine (laws_toInt8A26_calls (L.take 26) (by have := HL.out; simp; omega) _).mono ?_
  rintro e w1 ⟨rfl, hb1⟩
  replace HB := Aside0.mk (below_step (below_alloc (below_alloc HB.out _) _) hb1)
  have K0 := Aside0.mk (blk_below (blk_alloc (blk_alloc H0.out _) _) hb1)
  have K1 := Aside0.mk (show w1.heap[w.heap.size + 1]? = some (.cells (faceV (List.replicate 28 0) none 0 0) 32 (0, 0)) from blk_below (blk_alloc (blk_at (n := w.heap.size + 1) (by simp) _) _) hb1)
  have K2 := Aside0.mk (show w1.heap[w.heap.size + 2]? = some (.cells (faceV (List.replicate 28 0) none 0 0) 32 (0, 0)) from blk_below (blk_at (n := w.heap.size + 2) (by simp) _) hb1)
  clear H0 hb1
  go_wp2_with (first | ((with_reducible refine gate_store (t := 23) (p := 7) rfl ?_); refine ev_store_part rfl 23 (.tmp 7) (.tmp 6) rfl rfl (w.heap.size + 2) 0 (faceV (List.replicate 28 0) none 0 0) (cellsK .i8 (L.take 26)) rfl rfl _ K2.out (by have := HL.out; rw [cellsK_size, show (L.take 26).length = 26 by simp; omega]; exact info_26T) (by have := HL.out; rw [cellsK_size, faceV_size]; simp; omega) (fun v hv => Array.all_eq_true_iff_forall_mem.1 (cellsK_one .i8 _) v (by simpa using hv)) ?_; intro w2 hb2 hk2 hbel2; have M0 := Aside0.mk ((hk2.2 w.heap.size (blk_lt K0.out) (by omega)).trans K0.out); have M1 := Aside0.mk ((hk2.2 (w.heap.size + 1) (blk_lt K1.out) (by omega)).trans K1.out); have M2 := Aside0.mk hb2; have MB := Aside0.mk (HB.out.trans (hbel2 _ (by omega))); clear hb2 hk2 hbel2 K0 K1 K2 HB; rw [put26 _ (by have := HL.out; simp; omega)] at M2; have c0 := cellFT M0.out 26 (by have := HL.out; omega) Ha.out; have c1 := cellFT M0.out 27 (by have := HL.out; omega) Hb.out; have c2 := face_pairs M0.out HL.out; have f0 := blk_frozen M2.out 26; have f1 := blk_frozen M2.out 27; have d0 := cell_push M2.out 26 (by have := HL.out; simp; omega); have d1 := cell_push M2.out 27 (by have := HL.out; simp; omega)) | fail)
  refine (laws_toPairS.calls (P.length + 1) A c P (P.map toP) _ (Kd.C_below HR.out ((MB.out.setCell (by simp <;> omega) _).setCell (by simp <;> omega) _)) HC.out (toPairS_eq P HPl.out)).mono ?_
  rintro e w4 ⟨v, rfl, ho, hb4⟩
  have HB4 := Aside0.mk (below_step ((MB.out.setCell (by simp <;> omega) _).setCell (by simp <;> omega) _) hb4)
  have HO : Aside0 (Kd.R kPr 137 w4 w.heap.size (fun k => w.heap.size + 3 ≤ k) v (P.map toP)) := ⟨Kd.R_lower (Kd.R_mono (Kd.R_bound ho) (fun k hk => by have := MB.out.size; have := hk.2.1; have := blk_lt M2.out; simp at *; omega)) (by have := MB.out.size; simp; omega)⟩
  have N1 := Aside0.mk (blk_below (blk_far (blk_far M1.out (by simp <;> omega) _) (by simp <;> omega) _) hb4)
  have N2 := Aside0.mk (blk_below (blk_set (blk_set M2.out 26 (.int .i8 a)) 27 (.int .i8 b)) hb4)
  obtain ⟨A', c', rfl⟩ := Kd.R_slice HO.out
  have HN : Aside0 ((P.map toP).length = P.length) := ⟨by simp⟩
  generalize hnn : (P.map toP).length = nn at HO
  clear hnn HN
  have N3 : Aside0 (w4.heap[w.heap.size + 2]? = some (.cells ((cellsK .i8 L).push (.slice none 0 0)) 32 (0, 0))) := ⟨by
    have h := N2.out
    rw [set2 _ (by have := HL.out; simp; omega), HS.out] at h
    exact h⟩
  have HSZ : Aside0 ((Tryd.prog.info? 32).map (·.size) = some ((cellsK .i8 L).push (.slice A' nn c')).size) := ⟨by rw [Array.size_push, cellsK_size, HL.out]; exact info_faceT⟩
  have f28 := blk_frozen N3.out 28
  have d28 := cell_push_last N3.out HL.out
  clear M0 M1 M2 MB c0 c1 c2 f0 f1 d0 d1 ho hb4 N2
  go_wp2_with (first | ((with_reducible refine gate_dst (N := 18) rfl ?_); refine wpList_load_row rfl 32 (.tmp 3) rfl (w.heap.size + 2) rfl 32 ((cellsK .i8 L).push (.slice A' nn c')) (0, 0) _ (by have h := blk_set N3.out 28 (.slice A' nn c'); rw [set28 _ HL.out] at h; exact h) Tryd.underlying32 rfl HSZ.out ?_) | ((with_reducible refine gate_store (t := 32) (p := 2) rfl ?_); refine ev_store_row rfl 32 (.tmp 2) (.tmp 18) rfl rfl (w.heap.size + 1) ((cellsK .i8 L).push (.slice A' nn c')) rfl rfl _ _ (blk_far N1.out (by simp <;> omega) _) HSZ.out (by rw [Array.size_push, cellsK_size, faceV_size, HL.out]; simp) (push_one rfl L) ?_; intro w5 hb5 hk5 hbel5) | fail)
  refine bodyPost_ret (results_cell_row rfl _ _ (w.heap.size + 1) _ ((cellsK .i8 L).push (.slice A' nn c')) (0, 0) _ rfl hb5 Tryd.underlying32 rfl HSZ.out) rfl ⟨(.slice A' nn c'), rfl, ?_, ?_⟩
  · exact Kd.R_mono (Kd.R_kept (Kd.R_far (p := ⟨w.heap.size + 2, 28, none⟩) HO.out (fun k hk => by show k ≠ w.heap.size + 2; omega) (.slice A' nn c')) hk5 (fun k hk e => by have e2 : k = w.heap.size + 1 := e; omega)) (fun _ _ => trivial)
  · exact (HB4.out.setCell (by simp <;> omega) _).trans (hbel5 _ (by omega))
set_option maxRecDepth 100000
def laws_toFace.f (a0_0 a0_1 a0_2 a0_3 a0_4 a0_5 a0_6 a0_7 a0_8 a0_9 a0_10 a0_11 a0_12 a0_13 a0_14 a0_15 a0_16 a0_17 a0_18 a0_19 a0_20 a0_21 a0_22 a0_23 a0_24 a0_25 a0_26 a0_27 : Int) (l0_28 : List LP) : Option (Int × Int × Int × Int × Int × Int × Int × Int × Int × Int × Int × Int × Int × Int × Int × Int × Int × Int × Int × Int × Int × Int × Int × Int × Int × Int × Int × Int × List Pr) := if l0_28.length ≤ 1048576 then some (a0_0, a0_1, a0_2, a0_3, a0_4, a0_5, a0_6, a0_7, a0_8, a0_9, a0_10, a0_11, a0_12, a0_13, a0_14, a0_15, a0_16, a0_17, a0_18, a0_19, a0_20, a0_21, a0_22, a0_23, a0_24, a0_25, a0_26, a0_27, l0_28.map toP) else none
theorem laws_toFace.calls (a0_0 a0_1 a0_2 a0_3 a0_4 a0_5 a0_6 a0_7 a0_8 a0_9 a0_10 a0_11 a0_12 a0_13 a0_14 a0_15 a0_16 a0_17 a0_18 a0_19 a0_20 a0_21 a0_22 a0_23 a0_24 a0_25 a0_26 a0_27 : Int) (A0_28 : Option Addr) (c0_28 : Nat) (l0_28 : List LP) (r1 r2 r3 r4 r5 r6 r7 r8 r9 r10 r11 r12 r13 r14 r15 r16 r17 r18 r19 r20 r21 r22 r23 r24 r25 r26 r27 r28 : Int) (r29 : List Pr) (w : World) (hr0_28 : Kd.C kLP w A0_28 l0_28.length l0_28) (hc0_28 : l0_28.length ≤ c0_28) (h : laws_toFace.f a0_0 a0_1 a0_2 a0_3 a0_4 a0_5 a0_6 a0_7 a0_8 a0_9 a0_10 a0_11 a0_12 a0_13 a0_14 a0_15 a0_16 a0_17 a0_18 a0_19 a0_20 a0_21 a0_22 a0_23 a0_24 a0_25 a0_26 a0_27 l0_28 = some (r1, r2, r3, r4, r5, r6, r7, r8, r9, r10, r11, r12, r13, r14, r15, r16, r17, r18, r19, r20, r21, r22, r23, r24, r25, r26, r27, r28, r29)) :
    Calls Tryd.prog 20 #[.agg #[.int .i8 a0_0, .int .i8 a0_1, .int .i8 a0_2, .int .i8 a0_3, .int .i8 a0_4, .int .i8 a0_5, .int .i8 a0_6, .int .i8 a0_7, .int .i8 a0_8, .int .i8 a0_9, .int .i8 a0_10, .int .i8 a0_11, .int .i8 a0_12, .int .i8 a0_13, .int .i8 a0_14, .int .i8 a0_15, .int .i8 a0_16, .int .i8 a0_17, .int .i8 a0_18, .int .i8 a0_19, .int .i8 a0_20, .int .i8 a0_21, .int .i8 a0_22, .int .i8 a0_23, .int .i8 a0_24, .int .i8 a0_25, .int .i8 a0_26, .int .i8 a0_27, .slice A0_28 l0_28.length c0_28]] w fun e w' => ∃ v28_ : Value, e = .returned (.agg #[.int .i8 r1, .int .i8 r2, .int .i8 r3, .int .i8 r4, .int .i8 r5, .int .i8 r6, .int .i8 r7, .int .i8 r8, .int .i8 r9, .int .i8 r10, .int .i8 r11, .int .i8 r12, .int .i8 r13, .int .i8 r14, .int .i8 r15, .int .i8 r16, .int .i8 r17, .int .i8 r18, .int .i8 r19, .int .i8 r20, .int .i8 r21, .int .i8 r22, .int .i8 r23, .int .i8 r24, .int .i8 r25, .int .i8 r26, .int .i8 r27, .int .i8 r28, v28_]) ∧ Kd.R kPr 137 w' w.heap.size (fun _ => True) v28_ r29 ∧ Below w.heap.size w w' := by
  unfold laws_toFace.f at h
  split at h
  · rename_i hn
    simp only [Option.some.injEq, Prod.mk.injEq] at h
    obtain ⟨rfl, rfl, rfl, rfl, rfl, rfl, rfl, rfl, rfl, rfl, rfl, rfl, rfl, rfl, rfl, rfl, rfl, rfl, rfl, rfl, rfl, rfl, rfl, rfl, rfl, rfl, rfl, rfl, rfl⟩ := h
    exact toFace_calls [a0_0, a0_1, a0_2, a0_3, a0_4, a0_5, a0_6, a0_7, a0_8, a0_9, a0_10, a0_11, a0_12, a0_13, a0_14, a0_15, a0_16, a0_17, a0_18, a0_19, a0_20, a0_21, a0_22, a0_23, a0_24, a0_25, a0_26, a0_27] rfl A0_28 c0_28 l0_28 hn hc0_28 w hr0_28
  · cases h
theorem take_ne {l m : List Int} {n : Nat} (h1 : n < l.length) (h2 : n < m.length) (h : rd l n ≠ rd m n) : l ≠ m := by
  rintro rfl
  exact h rfl
theorem take_step {l m : List Int} {n : Nat} (h1 : n < l.length) (h2 : n < m.length) (h : rd l n = rd m n) (ht : l.take n = m.take n) : l.take (n + 1) = m.take (n + 1) := by
  rw [List.take_succ_eq_append_getElem h1, List.take_succ_eq_append_getElem h2, ht]
  congr 2
  unfold rd at h
  rw [Int.toNat_natCast, List.getD_eq_getElem?_getD, List.getD_eq_getElem?_getD, List.getElem?_eq_getElem h1, List.getElem?_eq_getElem h2] at h
  exact h
set_option maxHeartbeats 2000000 in
theorem eqInt8A26_calls (l m : List Int) (hl : l.length = 26) (hm : m.length = 26) (w : World) :
    Calls Tryd.prog 71 #[.agg (cellsK .i8 l), .agg (cellsK .i8 m)] w fun e w' => e = .returned (.bool (decide (l = m))) ∧ Below w.heap.size w w' := by
  obtain ⟨X, hX⟩ : ∃ X, X = cellsK .i8 l := ⟨_, rfl⟩
  obtain ⟨Y, hY⟩ : ∃ Y, Y = cellsK .i8 m := ⟨_, rfl⟩
  rw [← hX, ← hY]
  have HX := Aside0.mk hX
  have HY := Aside0.mk hY
  have HL := Aside0.mk hl
  have HM := Aside0.mk hm
  clear hX hY hl hm
  go_enter Tryd.func71, Tryd.ntmps71
  go_wp2
  go_loopw [5] (fun i wr => ∃ n : Nat, n ≤ 26 ∧ i = .int .i64 n ∧ Aside0 (wr.heap[w.heap.size]? = some (.cells X 23 (0, 0))) ∧ Aside0 (wr.heap[w.heap.size + 1]? = some (.cells Y 23 (0, 0))) ∧ Aside0 (Below w.heap.size w wr) ∧ Aside0 (l.take n = m.take n)) (fun i _ => 26 - (intOf i).toNat)
  case atStart =>
    refine ⟨0, by omega, rfl, ⟨?_⟩, ⟨?_⟩, ⟨?_⟩, ⟨rfl⟩⟩
    · exact blk_alloc (blk_new w _) _
    · exact blk_at (by simp) _
    · exact ((Below.refl _ _).alloc (Nat.le_refl _) _).alloc (by simp) _
  case round =>
    obtain ⟨n, hn, rfl, H0, H1, HB, HE⟩ := hrel
    by_cases hlt : n < 26
    · have hltz : (n : Int) < 26 := by omega
      have c0 : wr.cell? ⟨w.heap.size, n, none⟩ = some (.int .i8 (rd l n)) := cellsK_cell (k := .i8) (l := l) (by rw [← HX.out]; exact H0.out) n (by have := HL.out; omega)
      have c1 : wr.cell? ⟨w.heap.size + 1, n, none⟩ = some (.int .i8 (rd m n)) := cellsK_cell (k := .i8) (l := m) (by rw [← HY.out]; exact H1.out) n (by have := HM.out; omega)
      obtain ⟨x, hx⟩ : ∃ x, rd l n = x := ⟨_, rfl⟩
      obtain ⟨y, hy⟩ : ∃ y, rd m n = y := ⟨_, rfl⟩
      rw [hx] at c0
      rw [hy] at c1
      have Hx := Aside0.mk hx
      have Hy := Aside0.mk hy
      clear hx hy
      cases hq : (x == y)
      · have hq2 : (x != y) = true := by rw [bne, hq]; rfl
        have HQ := Aside0.mk hq
        go_wp2_with fail
        repeat (go_quiet (fail); try go_wp2)
        go_ret
        refine ⟨?_, (by repeat (first | exact HB.out | apply below_alloc | apply pw_below_drewN | apply below_drew1))⟩
        rw [decide_eq_false (take_ne (n := n) (by have := HL.out; omega) (by have := HM.out; omega) (by rw [Hx.out, Hy.out]; simpa using HQ.out))]
        rfl
      · have hq2 : (x != y) = false := by rw [bne, hq]; rfl
        have HQ := Aside0.mk hq
        go_wp2_with fail
        repeat (go_quiet (fail); try go_wp2)
        go_roundw
        case rel => exact ⟨n + 1, by omega, by go_num, ⟨by repeat (first | exact H0.out | apply blk_drewN | apply blk_drew)⟩, ⟨by repeat (first | exact H1.out | apply blk_drewN | apply blk_drew)⟩, ⟨by repeat (first | exact HB.out | apply below_alloc | apply pw_below_drewN | apply below_drew1)⟩, ⟨take_step (by have := HL.out; omega) (by have := HM.out; omega) (by rw [Hx.out, Hy.out]; simpa using HQ.out) HE.out⟩⟩
        case measure => simp [intOf]; omega
    · have hltz : ¬ (n : Int) < 26 := by omega
      obtain rfl : n = 26 := by omega
      go_wp2
      go_ret
      refine ⟨?_, HB.out⟩
      have e : l = m := by
        have h := HE.out
        rwa [List.take_of_length_le (by have := HL.out; omega), List.take_of_length_le (by have := HM.out; omega)] at h
      rw [decide_eq_true e]
      rfl
end Go.Proofs.YticjkfacdmmopaaDoor.Ext
namespace Go.Proofs.YticjkfacdmmopaaDoor.Q
open Go.Proofs.YticjkfacdmmopaaDoor.Ext
open Go.RowKit Go.Proofs.YticjkfacdmmopaaDoorW.PrintWords Go.Proofs.YticjkfacdmmopaaDoorW.PrintLast Go.Proofs.YticjkfacdmmopaaDoorW.PrintMore
attribute [local go_sem] max2_int min2_int max_two min_two max_three min_three max_four min_four
set_option linter.unusedVariables false
set_option linter.unusedSimpArgs false
def laws_eqPairS.l0 : Nat → List (S137) → List (S137) → Int → Option (Bool)
  | 0, _, _, _ => none
  | k + 1, x0, x1, x5 => if x5 < (x0.length : Int) then (if 0 ≤ x5 then (if x5 < (x1.length : Int) then ((laws_eqPair.f ((rd_T137 x0 x5).f0) ((rd_T137 x0 x5).f1) ((rd_T137 x0 x5).f2) ((rd_T137 x1 x5).f0) ((rd_T137 x1 x5).f1) ((rd_T137 x1 x5).f2)).bind fun t182 => (if t182 = true then (laws_eqPairS.l0 k x0 x1 (wrap64 (x5 + 1))) else (some false))) else (none)) else (none)) else (some true)
def laws_eqPairS.f (k : Nat) (l0 : List (S137)) (l1 : List (S137)) : Option (Bool) := if (l0.length : Int) = (l1.length : Int) then (laws_eqPairS.l0 k l0 l1 0) else (some false)
theorem laws_eqPairS.mono_l : ∀ k, (∀ y0 y1 y2, LeO (laws_eqPairS.l0 k y0 y1 y2) (laws_eqPairS.l0 (k + 1) y0 y1 y2))
  | 0 => fun _ _ _ r h => by simp [laws_eqPairS.l0] at h
  | k + 1 => by
    have ih0 := laws_eqPairS.mono_l k
    · intro y0 y1 y2
      unfold laws_eqPairS.l0
      repeat' first
      | (with_reducible exact ih0 _ _ _)
      | (with_reducible exact LeO.refl _)
      | (with_reducible exact LeO.none _)
      | (with_reducible refine LeO.ite ?_ ?_)
      | (with_reducible refine LeO.bind ?_ (fun _ => ?_))
      | exact ih0 _ _ _
      | exact LeO.none _
      | refine LeO.ite ?_ ?_
      | refine LeO.bind ?_ (fun _ => ?_)
theorem laws_eqPairS.mono : ∀ a0 a1 k, LeO (laws_eqPairS.f k a0 a1) (laws_eqPairS.f (k + 1) a0 a1) := by
  intro a0 a1 k
  have ih0 := laws_eqPairS.mono_l k
  unfold laws_eqPairS.f
  repeat' first
      | (with_reducible exact ih0 _ _ _)
      | (with_reducible exact LeO.refl _)
      | (with_reducible exact LeO.none _)
      | (with_reducible refine LeO.ite ?_ ?_)
      | (with_reducible refine LeO.bind ?_ (fun _ => ?_))
      | exact ih0 _ _ _
      | exact LeO.none _
      | refine LeO.ite ?_ ?_
      | refine LeO.bind ?_ (fun _ => ?_)
def laws_eqPairS.T6 : Bool × List (List Nat × List Nat) := (true, [([], []), ([], []), ([0, 1], [0, 1]), ([2], [2]), ([], []), ([], []), ([4, 5], [4, 5]), ([6], [6]), ([3, 7], [3, 7]), ([8], [8])])
def laws_eqPairS.B6 : List Nat := [0, 0, 3, 7, 0, 0, 48, 112, 255, 511]
theorem laws_eqPairS.tab6 : rtab .any (opsOf Tryd.f72 6) = laws_eqPairS.T6 := by kernel_rfl
theorem laws_eqPairS.bits6 : waitsOk laws_eqPairS.T6.2 laws_eqPairS.B6 = true := by kernel_rfl
set_option maxHeartbeats 8000000 in
set_option maxRecDepth 100000 in
theorem laws_eqPairS.calls (k : Nat) (A0 : Option Addr) (c0 : Nat) (l0 : List (S137)) (A1 : Option Addr) (c1 : Nat) (l1 : List (S137)) (r : Bool) (w : World) (hr0 : Kd.C k137 w A0 l0.length l0) (hc0 : l0.length ≤ c0) (hr1 : Kd.C k137 w A1 l1.length l1) (hc1 : l1.length ≤ c1) (h : laws_eqPairS.f k l0 l1 = some r) :
    Calls Tryd.prog 72 #[.slice A0 l0.length c0, .slice A1 l1.length c1] w fun e w' => e = .returned (.bool r) ∧ Below w.heap.size w w' := by
  have hu137 := Tryd.underlying137
  have HR0 := Aside0.mk hr0
  have HC0 := Aside0.mk hc0
  clear hr0 hc0
  have HR1 := Aside0.mk hr1
  have HC1 := Aside0.mk hc1
  clear hr1 hc1
  have HB := Aside0.mk (Below.refl w.heap.size w)
  have H : (if (l0.length : Int) = (l1.length : Int) then (laws_eqPairS.l0 k l0 l1 0) else (some false)) = some r := h
  clear h
  by_cases c3 : (l0.length : Int) = (l1.length : Int)
  · rw [if_pos c3] at H
    have c3b0 : ((l0.length : Int) == (l1.length : Int)) = true := beq_iff_eq.mpr c3
    have c3b1 : ((l0.length : Int) != (l1.length : Int)) = false := bne_eq_false_iff_eq.mpr c3
    have c3b2 : (l0.length == l1.length) = true := by first | simpa using c3 | (simp at c3 ⊢; omega)
    clear c3
    have H' := Aside0.mk H
    clear H
    go_enter Tryd.func72, Tryd.ntmps72
    go_wp2
    go_loopg [5] k (fun kq v5 w' => ∃ (x5_1 : Int), v5 = .int .i64 x5_1 ∧ Aside0 (laws_eqPairS.l0 kq l0 l1 x5_1 = some r) ∧ Aside0 (kq ≤ k) ∧ Aside0 (Below w.heap.size w w'))
    case atStart => exact ⟨(0), (by first | rfl | (simp; done) | (simp [*]; done)), H', ⟨Nat.le_refl _⟩, ⟨by repeat (first | (with_reducible first | exact HB.out | apply below_alloc | apply pw_below_drewN | apply below_drew1) | exact HB.out)⟩⟩
    case round =>
      clear H'
      try clear c1
      try clear p2
      try clear c3
      try clear c3b0
      try clear c3b1
      try clear c3b2
      obtain ⟨x5_1, rfl, HA, HK1, HB⟩ := hrel
      cases gk with
      | zero => exact absurd HA.out (by simp [laws_eqPairS.l0])
      | succ k1 =>
        have H := HA.out
        clear HA
        simp only [laws_eqPairS.l0] at H
        by_cases c4 : x5_1 < (l0.length : Int)
        · rw [if_pos c4] at H
          have c4b0 : decide (x5_1 < (l0.length : Int)) = true := decide_eq_true c4
          clear c4
          by_cases c5 : 0 ≤ x5_1
          · rw [if_pos c5] at H
            have c5b0 : decide (0 ≤ x5_1) = true := decide_eq_true c5
            clear c5
            by_cases c6 : x5_1 < (l1.length : Int)
            · rw [if_pos c6] at H
              have c6b0 : decide (x5_1 < (l1.length : Int)) = true := decide_eq_true c6
              clear c6
              replace H := Option.bind_eq_some_iff.mp H
              obtain ⟨t182, A70, H⟩ := H
              replace H : (if t182 = true then (laws_eqPairS.l0 k1 l0 l1 (wrap64 (x5_1 + 1))) else (some false)) = some r := H
              have A7 := Aside0.mk A70
              clear A70
              by_cases c8 : t182 = true
              · subst c8
                have H1 : (laws_eqPairS.l0 k1 l0 l1 (wrap64 (x5_1 + 1))) = some r := by rw [if_pos rfl] at H; exact H
                clear H
                have H := H1
                clear H1
                have H' := Aside0.mk H
                clear H
                try go_wp2
                have n0_ := Aside0.mk (below_drew1 HB.out)
                clear HB
                have HB := n0_
                clear n0_
                have p180 : 0 ≤ (x5_1 : Int) := of_decide_eq_true (by first | (with_reducible assumption) | assumption)
                have q180 : x5_1 < (l0.length : Int) := of_decide_eq_true (by first | (with_reducible assumption) | assumption)
                obtain ⟨ad180, e180, hx180_0, hx180_1, hx180_2⟩ := at_T137 HR0.out x5_1 p180 q180
                have hw180_2 := hx180_2
                have hw180_1 := hx180_1
                have hw180_0 := hx180_0
                cases e180
                replace hx180_0 := (HB.out.cell (World.block_lt_of_cell? w _ hx180_0)).trans hx180_0
                replace hx180_1 := (HB.out.cell (World.block_lt_of_cell? w _ hx180_1)).trans hx180_1
                replace hx180_2 := (HB.out.cell (World.block_lt_of_cell? w _ hx180_2)).trans hx180_2
                replace p180 := eq_true p180
                replace q180 := eq_true q180
                have p181 : 0 ≤ (x5_1 : Int) := of_decide_eq_true (by first | (with_reducible assumption) | assumption)
                have q181 : x5_1 < (l1.length : Int) := of_decide_eq_true (by first | (with_reducible assumption) | assumption)
                obtain ⟨ad181, e181, hx181_0, hx181_1, hx181_2⟩ := at_T137 HR1.out x5_1 p181 q181
                have hw181_2 := hx181_2
                have hw181_1 := hx181_1
                have hw181_0 := hx181_0
                cases e181
                replace hx181_0 := (HB.out.cell (World.block_lt_of_cell? w _ hx181_0)).trans hx181_0
                replace hx181_1 := (HB.out.cell (World.block_lt_of_cell? w _ hx181_1)).trans hx181_1
                replace hx181_2 := (HB.out.cell (World.block_lt_of_cell? w _ hx181_2)).trans hx181_2
                replace p181 := eq_true p181
                replace q181 := eq_true q181
                refine start_ (n := 10) (S := fun w' => w'.cell? (ad180.add ((x5_1).toNat * 3)) = some (.int .u8 ((rd_T137 l0 x5_1).f0)) ∧ w'.cell? ⟨(ad180.add ((x5_1).toNat * 3)).block, (ad180.add ((x5_1).toNat * 3)).off + 1, none⟩ = some (.int .u8 ((rd_T137 l0 x5_1).f1)) ∧ w'.cell? ⟨(ad180.add ((x5_1).toNat * 3)).block, (ad180.add ((x5_1).toNat * 3)).off + 2, none⟩ = some (.int .i8 ((rd_T137 l0 x5_1).f2)) ∧ w'.cell? (ad181.add ((x5_1).toNat * 3)) = some (.int .u8 ((rd_T137 l1 x5_1).f0)) ∧ w'.cell? ⟨(ad181.add ((x5_1).toNat * 3)).block, (ad181.add ((x5_1).toNat * 3)).off + 1, none⟩ = some (.int .u8 ((rd_T137 l1 x5_1).f1)) ∧ w'.cell? ⟨(ad181.add ((x5_1).toNat * 3)).block, (ad181.add ((x5_1).toNat * 3)).off + 2, none⟩ = some (.int .i8 ((rd_T137 l1 x5_1).f2))) (ds := []) #[false, false, false, false, false, false, false, false, false, false] (by kernel_rfl) rfl rfl ⟨((HB.out.cell (World.block_lt_of_cell? w _ hw180_0)).trans hw180_0), ((HB.out.cell (World.block_lt_of_cell? w _ hw180_1)).trans hw180_1), ((HB.out.cell (World.block_lt_of_cell? w _ hw180_2)).trans hw180_2), ((HB.out.cell (World.block_lt_of_cell? w _ hw181_0)).trans hw181_0), ((HB.out.cell (World.block_lt_of_cell? w _ hw181_1)).trans hw181_1), ((HB.out.cell (World.block_lt_of_cell? w _ hw181_2)).trans hw181_2)⟩ (fun hHeld => ?_); refine with_tabW laws_eqPairS.tab6 laws_eqPairS.bits6 (fun HT_ HW_ => ?_)
                generalize wr.drew = w9 at HB hx180_0 hx180_1 hx180_2 hx181_0 hx181_1 hx181_2 hHeld ⊢
                refine pure_ (i := 0) (N := some 17) (v := ?_) (a' := ?_) #[true, false, false, false, false, false, false, false, false, false] rfl rfl (any_of HT_.out (by kernel_rfl)) (fun _ _ _ h => h) (Or.inl ⟨by rfl, ?_⟩) ?_ ?_
                rotate_left
                · intro w'
                  go_simp
                  with_reducible rfl
                rotate_left
                · simp only [Act.put, List.setIfInBounds_toArray, List.set_cons_zero, List.set_cons_succ, i64_w, i32_w, u8_w_]
                  rfl
                refine pure_ (i := 1) (N := some 18) (v := ?_) (a' := ?_) #[true, true, false, false, false, false, false, false, false, false] rfl rfl (any_of HT_.out (by kernel_rfl)) (fun _ _ _ h => h) (Or.inl ⟨by rfl, ?_⟩) ?_ ?_
                rotate_left
                · intro w'
                  go_simp
                  with_reducible rfl
                rotate_left
                · simp only [Act.put, List.setIfInBounds_toArray, List.set_cons_zero, List.set_cons_succ, i64_w, i32_w, u8_w_]
                  rfl
                refine pure_ (i := 2) (N := some 19) (v := ?_) (a' := ?_) #[true, true, true, false, false, false, false, false, false, false] rfl rfl (any_of HT_.out (by kernel_rfl)) (fun _ _ _ h => h) (Or.inl ⟨by rfl, ?_⟩) ?_ ?_
                rotate_left
                · intro w'
                  go_simp
                  with_reducible rfl
                rotate_left
                · simp only [Act.put, List.setIfInBounds_toArray, List.set_cons_zero, List.set_cons_succ, i64_w, i32_w, u8_w_]
                  rfl
                refine pure_ (i := 4) (N := some 21) (v := ?_) (a' := ?_) #[true, true, true, false, true, false, false, false, false, false] rfl rfl (any_of HT_.out (by kernel_rfl)) (fun _ _ _ h => h) (Or.inl ⟨by rfl, ?_⟩) ?_ ?_
                rotate_left
                · intro w'
                  go_simp
                  with_reducible rfl
                rotate_left
                · simp only [Act.put, List.setIfInBounds_toArray, List.set_cons_zero, List.set_cons_succ, i64_w, i32_w, u8_w_]
                  rfl
                refine pure_ (i := 5) (N := some 22) (v := ?_) (a' := ?_) #[true, true, true, false, true, true, false, false, false, false] rfl rfl (any_of HT_.out (by kernel_rfl)) (fun _ _ _ h => h) (Or.inl ⟨by rfl, ?_⟩) ?_ ?_
                rotate_left
                · intro w'
                  go_simp
                  with_reducible rfl
                rotate_left
                · simp only [Act.put, List.setIfInBounds_toArray, List.set_cons_zero, List.set_cons_succ, i64_w, i32_w, u8_w_]
                  rfl
                refine pure_ (i := 6) (N := some 23) (v := ?_) (a' := ?_) #[true, true, true, false, true, true, true, false, false, false] rfl rfl (any_of HT_.out (by kernel_rfl)) (fun _ _ _ h => h) (Or.inl ⟨by rfl, ?_⟩) ?_ ?_
                rotate_left
                · intro w'
                  go_simp
                  with_reducible rfl
                rotate_left
                · simp only [Act.put, List.setIfInBounds_toArray, List.set_cons_zero, List.set_cons_succ, i64_w, i32_w, u8_w_]
                  rfl
                refine take_ (i := 3) (N := some 20) (v := ?_) (a' := ?_) #[true, true, true, true, true, true, true, false, false, false] rfl rfl (take_ofW HT_.out HW_.out (by kernel_rfl)) (fun _ _ _ h => h) (Or.inl ⟨by rfl, ?_⟩) hHeld ?_ ?_
                rotate_left
                · rintro w' ⟨s0, s1, s2, s3, s4, s5⟩
                  go_simp
                  with_reducible rfl
                rotate_left
                · simp only [Act.put, List.setIfInBounds_toArray, List.set_cons_zero, List.set_cons_succ, i64_w, i32_w, u8_w_]
                  rfl
                refine take_ (i := 7) (N := some 24) (v := ?_) (a' := ?_) #[true, true, true, true, true, true, true, true, false, false] rfl rfl (take_ofW HT_.out HW_.out (by kernel_rfl)) (fun _ _ _ h => h) (Or.inl ⟨by rfl, ?_⟩) hHeld ?_ ?_
                rotate_left
                · rintro w' ⟨s0, s1, s2, s3, s4, s5⟩
                  go_simp
                  with_reducible rfl
                rotate_left
                · simp only [Act.put, List.setIfInBounds_toArray, List.set_cons_zero, List.set_cons_succ, i64_w, i32_w, u8_w_]
                  rfl
                refine one_ (i := 8) (N := some 25) #[true, true, true, true, true, true, true, true, true, false] rfl rfl (one_of HT_.out (by kernel_rfl)) (by decide) (fun K hK => ?_)
                refine goes_ Tryd.func123 (by kernel_rfl) rfl #[.agg #[.int .u8 ((rd_T137 l0 x5_1).f0), .int .u8 ((rd_T137 l0 x5_1).f1), .int .i8 ((rd_T137 l0 x5_1).f2)], .agg #[.int .u8 ((rd_T137 l1 x5_1).f0), .int .u8 ((rd_T137 l1 x5_1).f1), .int .i8 ((rd_T137 l1 x5_1).f2)]] (by rfl) rfl rfl (by (try simp only [List.map_toArray, List.map_cons, List.map_nil]); first | done | rfl | (simp only [List.length_drop, List.length_take]; rfl)) ?_
                with_reducible refine (laws_eqPair.calls ((rd_T137 l0 x5_1).f0) ((rd_T137 l0 x5_1).f1) ((rd_T137 l0 x5_1).f2) ((rd_T137 l1 x5_1).f0) ((rd_T137 l1 x5_1).f1) ((rd_T137 l1 x5_1).f2) true _ A7.out).mono ?_
                rintro e w10 ⟨rfl, hb⟩
                refine ⟨_, rfl, ?_⟩
                have n0_ := Aside0.mk (below_step (by repeat (first | (with_reducible first | exact HB.out | apply below_alloc | apply pw_below_drewN | apply below_drew1) | exact HB.out)) hb)
                clear HB
                have HB := n0_
                clear n0_
                (try clear hb)
                (try clear hb2)
                (try clear hk)
                (try clear hi)
                refine hK.out _ _ ⟨((HB.out.cell (World.block_lt_of_cell? w _ hw180_0)).trans hw180_0), ((HB.out.cell (World.block_lt_of_cell? w _ hw180_1)).trans hw180_1), ((HB.out.cell (World.block_lt_of_cell? w _ hw180_2)).trans hw180_2), ((HB.out.cell (World.block_lt_of_cell? w _ hw181_0)).trans hw181_0), ((HB.out.cell (World.block_lt_of_cell? w _ hw181_1)).trans hw181_1), ((HB.out.cell (World.block_lt_of_cell? w _ hw181_2)).trans hw181_2)⟩ (fun hHeld => ?_)
                clear hK K
                refine norm_ (a' := ?_) ?_ ?_
                rotate_left
                · show Act.put _ (some 25) _ = _
                  simp only [Act.put, List.setIfInBounds_toArray, List.set_cons_zero, List.set_cons_succ, i64_w, i32_w, u8_w_]
                  rfl
                refine pure_ (i := 9) (N := some 26) (v := ?_) (a' := ?_) #[true, true, true, true, true, true, true, true, true, true] rfl rfl (any_of HT_.out (by kernel_rfl)) (fun _ _ _ h => h) (Or.inl ⟨by rfl, ?_⟩) ?_ ?_
                rotate_left
                · intro w'
                  go_simp
                  with_reducible rfl
                rotate_left
                · simp only [Act.put, List.setIfInBounds_toArray, List.set_cons_zero, List.set_cons_succ, i64_w, i32_w, u8_w_]
                  rfl
                refine done_ (done_of HT_.out (by kernel_rfl)) ?_
                try go_wp2
                go_roundg k1
                case measure => have := HK1.out; omega
                case rel => exact ⟨(wrap64 (x5_1 + 1)), (by first | rfl | (simp; done) | (simp [*]; done)), H', ⟨by have := HK1.out; omega⟩, ⟨by repeat (first | (with_reducible first | exact HB.out | apply below_alloc | apply pw_below_drewN | apply below_drew1) | exact HB.out)⟩⟩
              · replace c8 := Bool.eq_false_iff.mpr c8
                subst c8
                have H1 : (some false) = some r := by rw [if_neg (show ¬ (false = true) by decide)] at H; exact H
                clear H
                have H := H1
                clear H1
                obtain rfl := Option.some.inj H
                try go_wp2
                have n0_ := Aside0.mk (below_drew1 HB.out)
                clear HB
                have HB := n0_
                clear n0_
                have p180 : 0 ≤ (x5_1 : Int) := of_decide_eq_true (by first | (with_reducible assumption) | assumption)
                have q180 : x5_1 < (l0.length : Int) := of_decide_eq_true (by first | (with_reducible assumption) | assumption)
                obtain ⟨ad180, e180, hx180_0, hx180_1, hx180_2⟩ := at_T137 HR0.out x5_1 p180 q180
                have hw180_2 := hx180_2
                have hw180_1 := hx180_1
                have hw180_0 := hx180_0
                cases e180
                replace hx180_0 := (HB.out.cell (World.block_lt_of_cell? w _ hx180_0)).trans hx180_0
                replace hx180_1 := (HB.out.cell (World.block_lt_of_cell? w _ hx180_1)).trans hx180_1
                replace hx180_2 := (HB.out.cell (World.block_lt_of_cell? w _ hx180_2)).trans hx180_2
                replace p180 := eq_true p180
                replace q180 := eq_true q180
                have p181 : 0 ≤ (x5_1 : Int) := of_decide_eq_true (by first | (with_reducible assumption) | assumption)
                have q181 : x5_1 < (l1.length : Int) := of_decide_eq_true (by first | (with_reducible assumption) | assumption)
                obtain ⟨ad181, e181, hx181_0, hx181_1, hx181_2⟩ := at_T137 HR1.out x5_1 p181 q181
                have hw181_2 := hx181_2
                have hw181_1 := hx181_1
                have hw181_0 := hx181_0
                cases e181
                replace hx181_0 := (HB.out.cell (World.block_lt_of_cell? w _ hx181_0)).trans hx181_0
                replace hx181_1 := (HB.out.cell (World.block_lt_of_cell? w _ hx181_1)).trans hx181_1
                replace hx181_2 := (HB.out.cell (World.block_lt_of_cell? w _ hx181_2)).trans hx181_2
                replace p181 := eq_true p181
                replace q181 := eq_true q181
                refine start_ (n := 10) (S := fun w' => w'.cell? (ad180.add ((x5_1).toNat * 3)) = some (.int .u8 ((rd_T137 l0 x5_1).f0)) ∧ w'.cell? ⟨(ad180.add ((x5_1).toNat * 3)).block, (ad180.add ((x5_1).toNat * 3)).off + 1, none⟩ = some (.int .u8 ((rd_T137 l0 x5_1).f1)) ∧ w'.cell? ⟨(ad180.add ((x5_1).toNat * 3)).block, (ad180.add ((x5_1).toNat * 3)).off + 2, none⟩ = some (.int .i8 ((rd_T137 l0 x5_1).f2)) ∧ w'.cell? (ad181.add ((x5_1).toNat * 3)) = some (.int .u8 ((rd_T137 l1 x5_1).f0)) ∧ w'.cell? ⟨(ad181.add ((x5_1).toNat * 3)).block, (ad181.add ((x5_1).toNat * 3)).off + 1, none⟩ = some (.int .u8 ((rd_T137 l1 x5_1).f1)) ∧ w'.cell? ⟨(ad181.add ((x5_1).toNat * 3)).block, (ad181.add ((x5_1).toNat * 3)).off + 2, none⟩ = some (.int .i8 ((rd_T137 l1 x5_1).f2))) (ds := []) #[false, false, false, false, false, false, false, false, false, false] (by kernel_rfl) rfl rfl ⟨((HB.out.cell (World.block_lt_of_cell? w _ hw180_0)).trans hw180_0), ((HB.out.cell (World.block_lt_of_cell? w _ hw180_1)).trans hw180_1), ((HB.out.cell (World.block_lt_of_cell? w _ hw180_2)).trans hw180_2), ((HB.out.cell (World.block_lt_of_cell? w _ hw181_0)).trans hw181_0), ((HB.out.cell (World.block_lt_of_cell? w _ hw181_1)).trans hw181_1), ((HB.out.cell (World.block_lt_of_cell? w _ hw181_2)).trans hw181_2)⟩ (fun hHeld => ?_); refine with_tabW laws_eqPairS.tab6 laws_eqPairS.bits6 (fun HT_ HW_ => ?_)
                generalize wr.drew = w11 at HB hx180_0 hx180_1 hx180_2 hx181_0 hx181_1 hx181_2 hHeld ⊢
                refine pure_ (i := 0) (N := some 17) (v := ?_) (a' := ?_) #[true, false, false, false, false, false, false, false, false, false] rfl rfl (any_of HT_.out (by kernel_rfl)) (fun _ _ _ h => h) (Or.inl ⟨by rfl, ?_⟩) ?_ ?_
                rotate_left
                · intro w'
                  go_simp
                  with_reducible rfl
                rotate_left
                · simp only [Act.put, List.setIfInBounds_toArray, List.set_cons_zero, List.set_cons_succ, i64_w, i32_w, u8_w_]
                  rfl
                refine pure_ (i := 1) (N := some 18) (v := ?_) (a' := ?_) #[true, true, false, false, false, false, false, false, false, false] rfl rfl (any_of HT_.out (by kernel_rfl)) (fun _ _ _ h => h) (Or.inl ⟨by rfl, ?_⟩) ?_ ?_
                rotate_left
                · intro w'
                  go_simp
                  with_reducible rfl
                rotate_left
                · simp only [Act.put, List.setIfInBounds_toArray, List.set_cons_zero, List.set_cons_succ, i64_w, i32_w, u8_w_]
                  rfl
                refine pure_ (i := 2) (N := some 19) (v := ?_) (a' := ?_) #[true, true, true, false, false, false, false, false, false, false] rfl rfl (any_of HT_.out (by kernel_rfl)) (fun _ _ _ h => h) (Or.inl ⟨by rfl, ?_⟩) ?_ ?_
                rotate_left
                · intro w'
                  go_simp
                  with_reducible rfl
                rotate_left
                · simp only [Act.put, List.setIfInBounds_toArray, List.set_cons_zero, List.set_cons_succ, i64_w, i32_w, u8_w_]
                  rfl
                refine pure_ (i := 4) (N := some 21) (v := ?_) (a' := ?_) #[true, true, true, false, true, false, false, false, false, false] rfl rfl (any_of HT_.out (by kernel_rfl)) (fun _ _ _ h => h) (Or.inl ⟨by rfl, ?_⟩) ?_ ?_
                rotate_left
                · intro w'
                  go_simp
                  with_reducible rfl
                rotate_left
                · simp only [Act.put, List.setIfInBounds_toArray, List.set_cons_zero, List.set_cons_succ, i64_w, i32_w, u8_w_]
                  rfl
                refine pure_ (i := 5) (N := some 22) (v := ?_) (a' := ?_) #[true, true, true, false, true, true, false, false, false, false] rfl rfl (any_of HT_.out (by kernel_rfl)) (fun _ _ _ h => h) (Or.inl ⟨by rfl, ?_⟩) ?_ ?_
                rotate_left
                · intro w'
                  go_simp
                  with_reducible rfl
                rotate_left
                · simp only [Act.put, List.setIfInBounds_toArray, List.set_cons_zero, List.set_cons_succ, i64_w, i32_w, u8_w_]
                  rfl
                refine pure_ (i := 6) (N := some 23) (v := ?_) (a' := ?_) #[true, true, true, false, true, true, true, false, false, false] rfl rfl (any_of HT_.out (by kernel_rfl)) (fun _ _ _ h => h) (Or.inl ⟨by rfl, ?_⟩) ?_ ?_
                rotate_left
                · intro w'
                  go_simp
                  with_reducible rfl
                rotate_left
                · simp only [Act.put, List.setIfInBounds_toArray, List.set_cons_zero, List.set_cons_succ, i64_w, i32_w, u8_w_]
                  rfl
                refine take_ (i := 3) (N := some 20) (v := ?_) (a' := ?_) #[true, true, true, true, true, true, true, false, false, false] rfl rfl (take_ofW HT_.out HW_.out (by kernel_rfl)) (fun _ _ _ h => h) (Or.inl ⟨by rfl, ?_⟩) hHeld ?_ ?_
                rotate_left
                · rintro w' ⟨s0, s1, s2, s3, s4, s5⟩
                  go_simp
                  with_reducible rfl
                rotate_left
                · simp only [Act.put, List.setIfInBounds_toArray, List.set_cons_zero, List.set_cons_succ, i64_w, i32_w, u8_w_]
                  rfl
                refine take_ (i := 7) (N := some 24) (v := ?_) (a' := ?_) #[true, true, true, true, true, true, true, true, false, false] rfl rfl (take_ofW HT_.out HW_.out (by kernel_rfl)) (fun _ _ _ h => h) (Or.inl ⟨by rfl, ?_⟩) hHeld ?_ ?_
                rotate_left
                · rintro w' ⟨s0, s1, s2, s3, s4, s5⟩
                  go_simp
                  with_reducible rfl
                rotate_left
                · simp only [Act.put, List.setIfInBounds_toArray, List.set_cons_zero, List.set_cons_succ, i64_w, i32_w, u8_w_]
                  rfl
                refine one_ (i := 8) (N := some 25) #[true, true, true, true, true, true, true, true, true, false] rfl rfl (one_of HT_.out (by kernel_rfl)) (by decide) (fun K hK => ?_)
                refine goes_ Tryd.func123 (by kernel_rfl) rfl #[.agg #[.int .u8 ((rd_T137 l0 x5_1).f0), .int .u8 ((rd_T137 l0 x5_1).f1), .int .i8 ((rd_T137 l0 x5_1).f2)], .agg #[.int .u8 ((rd_T137 l1 x5_1).f0), .int .u8 ((rd_T137 l1 x5_1).f1), .int .i8 ((rd_T137 l1 x5_1).f2)]] (by rfl) rfl rfl (by (try simp only [List.map_toArray, List.map_cons, List.map_nil]); first | done | rfl | (simp only [List.length_drop, List.length_take]; rfl)) ?_
                with_reducible refine (laws_eqPair.calls ((rd_T137 l0 x5_1).f0) ((rd_T137 l0 x5_1).f1) ((rd_T137 l0 x5_1).f2) ((rd_T137 l1 x5_1).f0) ((rd_T137 l1 x5_1).f1) ((rd_T137 l1 x5_1).f2) false _ A7.out).mono ?_
                rintro e w12 ⟨rfl, hb⟩
                refine ⟨_, rfl, ?_⟩
                have n0_ := Aside0.mk (below_step (by repeat (first | (with_reducible first | exact HB.out | apply below_alloc | apply pw_below_drewN | apply below_drew1) | exact HB.out)) hb)
                clear HB
                have HB := n0_
                clear n0_
                (try clear hb)
                (try clear hb2)
                (try clear hk)
                (try clear hi)
                refine hK.out _ _ ⟨((HB.out.cell (World.block_lt_of_cell? w _ hw180_0)).trans hw180_0), ((HB.out.cell (World.block_lt_of_cell? w _ hw180_1)).trans hw180_1), ((HB.out.cell (World.block_lt_of_cell? w _ hw180_2)).trans hw180_2), ((HB.out.cell (World.block_lt_of_cell? w _ hw181_0)).trans hw181_0), ((HB.out.cell (World.block_lt_of_cell? w _ hw181_1)).trans hw181_1), ((HB.out.cell (World.block_lt_of_cell? w _ hw181_2)).trans hw181_2)⟩ (fun hHeld => ?_)
                clear hK K
                refine norm_ (a' := ?_) ?_ ?_
                rotate_left
                · show Act.put _ (some 25) _ = _
                  simp only [Act.put, List.setIfInBounds_toArray, List.set_cons_zero, List.set_cons_succ, i64_w, i32_w, u8_w_]
                  rfl
                refine pure_ (i := 9) (N := some 26) (v := ?_) (a' := ?_) #[true, true, true, true, true, true, true, true, true, true] rfl rfl (any_of HT_.out (by kernel_rfl)) (fun _ _ _ h => h) (Or.inl ⟨by rfl, ?_⟩) ?_ ?_
                rotate_left
                · intro w'
                  go_simp
                  with_reducible rfl
                rotate_left
                · simp only [Act.put, List.setIfInBounds_toArray, List.set_cons_zero, List.set_cons_succ, i64_w, i32_w, u8_w_]
                  rfl
                refine done_ (done_of HT_.out (by kernel_rfl)) ?_
                try go_wp2
                go_ret
                exact ⟨by first | rfl | (simp [errW_none, errW_some] <;> rfl) | (simp [*, errW_none, errW_some] <;> rfl), by repeat (first | (with_reducible first | exact HB.out | apply below_alloc | apply pw_below_drewN | apply below_drew1) | exact HB.out)⟩
            · rw [if_neg c6] at H
              exact absurd H (by simp)
          · rw [if_neg c5] at H
            exact absurd H (by simp)
        · rw [if_neg c4] at H
          have c4b0 : decide (x5_1 < (l0.length : Int)) = false := decide_eq_false c4
          clear c4
          obtain rfl := Option.some.inj H
          go_wp2
          go_ret
          exact ⟨by first | rfl | (simp [errW_none, errW_some] <;> rfl) | (simp [*, errW_none, errW_some] <;> rfl), by repeat (first | (with_reducible first | exact HB.out | apply below_alloc | apply pw_below_drewN | apply below_drew1) | exact HB.out)⟩
  · rw [if_neg c3] at H
    have c3b0 : ((l0.length : Int) == (l1.length : Int)) = false := beq_eq_false_iff_ne.mpr c3
    have c3b1 : ((l0.length : Int) != (l1.length : Int)) = true := bne_iff_ne.mpr c3
    have c3b2 : (l0.length == l1.length) = false := by first | simpa using c3 | (simp at c3 ⊢; omega)
    obtain rfl := Option.some.inj H
    go_enter Tryd.func72, Tryd.ntmps72
    go_wp2
    go_ret
    exact ⟨by first | rfl | (simp [errW_none, errW_some] <;> rfl) | (simp [*, errW_none, errW_some] <;> rfl), by repeat (first | (with_reducible first | exact HB.out | apply below_alloc | apply pw_below_drewN | apply below_drew1) | exact HB.out)⟩
end Go.Proofs.YticjkfacdmmopaaDoor.Q
namespace Go.Proofs.YticjkfacdmmopaaDoor.Ext
open Go.RowKit Go.Proofs.YticjkfacdmmopaaDoor.Q Go.Proofs.YticjkfacdmmopaaDoor.Face Go.Proofs.YticjkfacdmmopaaDoorW.PrintWords Go.Proofs.YticjkfacdmmopaaDoorW.PrintLast Go.Proofs.YticjkfacdmmopaaDoorW.PrintMore
set_option linter.unusedVariables false
set_option linter.unusedSimpArgs false
set_option maxRecDepth 100000
def eqFaceF (L M : List Int) (P Q : List Pr) : Option Bool := if L.take 26 = M.take 26 ∧ rd L 26 = rd M 26 ∧ rd L 27 = rd M 27 then laws_eqPairS.f (P.length + 1) P Q else some false
set_option maxHeartbeats 2000000 in
theorem eqFace_calls (L M : List Int) (hL : L.length = 28) (hM : M.length = 28) (A B : Option Addr) (c d : Nat) (P Q : List Pr) (hc : P.length ≤ c) (hd : Q.length ≤ d) (w : World) (hr : Kd.C kPr w A P.length P) (hq : Kd.C kPr w B Q.length Q) (r : Bool) (h : eqFaceF L M P Q = some r) :
    Calls Tryd.prog 22 #[.agg (faceV L A P.length c), .agg (faceV M B Q.length d)] w fun e w' => e = .returned (.bool r) ∧ Below w.heap.size w w' := by
  obtain ⟨a, ha⟩ : ∃ a, rd L (26 : Nat) = a := ⟨_, rfl⟩
  obtain ⟨b, hb⟩ : ∃ b, rd L (27 : Nat) = b := ⟨_, rfl⟩
  obtain ⟨a', ha'⟩ : ∃ a, rd M (26 : Nat) = a := ⟨_, rfl⟩
  obtain ⟨b', hb'⟩ : ∃ b, rd M (27 : Nat) = b := ⟨_, rfl⟩
  have HI : Aside0 ((Tryd.prog.info? 23).map (·.size) = some (nums .i8 (L.take 26)).length) := ⟨by rw [show (nums .i8 (L.take 26)).length = 26 by simp [nums]; omega]; exact info_26T⟩
  have HJ : Aside0 ((Tryd.prog.info? 23).map (·.size) = some (nums .i8 (M.take 26)).length) := ⟨by rw [show (nums .i8 (M.take 26)).length = 26 by simp [nums]; omega]; exact info_26T⟩
  have HL := Aside0.mk hL
  have HM := Aside0.mk hM
  have HR := Aside0.mk hr
  have HQ := Aside0.mk hq
  have HC := Aside0.mk hc
  have HD := Aside0.mk hd
  have HF := Aside0.mk h
  have Ha := Aside0.mk ha
  have Hb := Aside0.mk hb
  have Ha' := Aside0.mk ha'
  have Hb' := Aside0.mk hb'
  have H0 := Aside0.mk (blk_alloc (blk_new w (.cells (faceV L A P.length c) 32)) (.cells (faceV M B Q.length d) 32))
  have H1 := Aside0.mk (blk_at (W := w.alloc (.cells (faceV L A P.length c) 32)) (n := w.heap.size + 1) (by simp) (.cells (faceV M B Q.length d) 32))
  have HB := Aside0.mk (below_alloc (below_alloc (Below.refl w.heap.size w) (.cells (faceV L A P.length c) 32)) (.cells (faceV M B Q.length d) 32))
  clear ha hb ha' hb' hL hM hr hq hc hd h
  go_enter Tryd.func22, Tryd.ntmps22
  go_wp2_with (first | ((with_reducible refine gate_dst (N := 6) rfl ?_); refine wpList_load_mid rfl 23 (.tmp 5) rfl w.heap.size 0 rfl (nums .i8 (L.take 26)) _ (range_faceT H0.out 26 (by have := HL.out; omega)) Tryd.underlying23 rfl HI.out ?_) | ((with_reducible refine gate_dst (N := 8) rfl ?_); refine wpList_load_mid rfl 23 (.tmp 7) rfl (w.heap.size + 1) 0 rfl (nums .i8 (M.take 26)) _ (range_faceT H1.out 26 (by have := HM.out; omega)) Tryd.underlying23 rfl HJ.out ?_) | fail)
  refine (eqInt8A26_calls (L.take 26) (M.take 26) (by have := HL.out; simp; omega) (by have := HM.out; simp; omega) _).mono ?_
  rintro e w1 ⟨rfl, hb1⟩
  have K0 := Aside0.mk (blk_below H0.out hb1)
  have K1 := Aside0.mk (blk_below H1.out hb1)
  have KB := Aside0.mk (below_step HB.out hb1)
  have c0 := cellFT K0.out 26 (by have := HL.out; omega) Ha.out
  have c1 := cellFT K0.out 27 (by have := HL.out; omega) Hb.out
  have c2 := face_pairs K0.out HL.out
  have d0 := cellFT K1.out 26 (by have := HM.out; omega) Ha'.out
  have d1 := cellFT K1.out 27 (by have := HM.out; omega) Hb'.out
  have d2 := face_pairs K1.out HM.out
  by_cases h26 : L.take 26 = M.take 26
  · rw [decide_eq_true h26]
    by_cases hA : a = a'
    · by_cases hB : b = b'
      · have hA1 : (a != a') = false := by simpa using hA
        have hB1 : (b != b') = false := by simpa using hB
        have HH : Aside0 (laws_eqPairS.f (P.length + 1) P Q = some r) := ⟨by have := HF.out; unfold eqFaceF at this; rwa [if_pos ⟨h26, Ha.out.trans (hA.trans Ha'.out.symm), Hb.out.trans (hB.trans Hb'.out.symm)⟩] at this⟩
        clear hA hB h26
        go_wp2_with fail
        refine (laws_eqPairS.calls (P.length + 1) A c P B d Q r _ (Kd.C_below HR.out KB.out) HC.out (Kd.C_below HQ.out KB.out) HD.out HH.out).mono ?_
        rintro e w2 ⟨rfl, hd2⟩
        have BD : Aside0 (Below w.heap.size w w2) := ⟨by first | exact below_step KB.out hd2 | (obtain ⟨nd, rfl⟩ := hd2; exact pw_below_drewN KB.out _)⟩
        clear hd2
        cases r
        · go_wp2
          go_ret
          exact ⟨rfl, BD.out⟩
        · go_wp2
          go_ret
          exact ⟨rfl, BD.out⟩
      · have hA1 : (a != a') = false := by simpa using hA
        have hB1 : (b != b') = true := by simpa using hB
        have HH : Aside0 (r = false) := ⟨by have := HF.out; unfold eqFaceF at this; rw [if_neg (by rintro ⟨_, _, h3⟩; exact hB (Hb.out.symm.trans (Eq.trans h3 Hb'.out)))] at this; exact (Option.some.inj this).symm⟩
        clear hA hB h26
        go_wp2
        go_ret
        exact ⟨by rw [HH.out]; rfl, KB.out⟩
    · have hA1 : (a != a') = true := by simpa using hA
      have HH : Aside0 (r = false) := ⟨by have := HF.out; unfold eqFaceF at this; rw [if_neg (by rintro ⟨_, h3, _⟩; exact hA (Ha.out.symm.trans (Eq.trans h3 Ha'.out)))] at this; exact (Option.some.inj this).symm⟩
      clear hA h26
      go_wp2
      go_ret
      exact ⟨by rw [HH.out]; rfl, KB.out⟩
  · rw [decide_eq_false h26]
    have HH : Aside0 (r = false) := ⟨by have := HF.out; unfold eqFaceF at this; rw [if_neg (by rintro ⟨h3, _, _⟩; exact h26 h3)] at this; exact (Option.some.inj this).symm⟩
    clear h26
    go_wp2
    go_ret
    exact ⟨by rw [HH.out]; rfl, KB.out⟩
def laws_eqFace.f (a0_0 a0_1 a0_2 a0_3 a0_4 a0_5 a0_6 a0_7 a0_8 a0_9 a0_10 a0_11 a0_12 a0_13 a0_14 a0_15 a0_16 a0_17 a0_18 a0_19 a0_20 a0_21 a0_22 a0_23 a0_24 a0_25 a0_26 a0_27 : Int) (l0_28 : List Pr) (a1_0 a1_1 a1_2 a1_3 a1_4 a1_5 a1_6 a1_7 a1_8 a1_9 a1_10 a1_11 a1_12 a1_13 a1_14 a1_15 a1_16 a1_17 a1_18 a1_19 a1_20 a1_21 a1_22 a1_23 a1_24 a1_25 a1_26 a1_27 : Int) (l1_28 : List Pr) : Option Bool := eqFaceF [a0_0, a0_1, a0_2, a0_3, a0_4, a0_5, a0_6, a0_7, a0_8, a0_9, a0_10, a0_11, a0_12, a0_13, a0_14, a0_15, a0_16, a0_17, a0_18, a0_19, a0_20, a0_21, a0_22, a0_23, a0_24, a0_25, a0_26, a0_27] [a1_0, a1_1, a1_2, a1_3, a1_4, a1_5, a1_6, a1_7, a1_8, a1_9, a1_10, a1_11, a1_12, a1_13, a1_14, a1_15, a1_16, a1_17, a1_18, a1_19, a1_20, a1_21, a1_22, a1_23, a1_24, a1_25, a1_26, a1_27] l0_28 l1_28
theorem laws_eqFace.calls (a0_0 a0_1 a0_2 a0_3 a0_4 a0_5 a0_6 a0_7 a0_8 a0_9 a0_10 a0_11 a0_12 a0_13 a0_14 a0_15 a0_16 a0_17 a0_18 a0_19 a0_20 a0_21 a0_22 a0_23 a0_24 a0_25 a0_26 a0_27 : Int) (A0_28 : Option Addr) (c0_28 : Nat) (l0_28 : List Pr) (a1_0 a1_1 a1_2 a1_3 a1_4 a1_5 a1_6 a1_7 a1_8 a1_9 a1_10 a1_11 a1_12 a1_13 a1_14 a1_15 a1_16 a1_17 a1_18 a1_19 a1_20 a1_21 a1_22 a1_23 a1_24 a1_25 a1_26 a1_27 : Int) (A1_28 : Option Addr) (c1_28 : Nat) (l1_28 : List Pr) (r : Bool) (w : World) (hr0_28 : Kd.C kPr w A0_28 l0_28.length l0_28) (hc0_28 : l0_28.length ≤ c0_28) (hr1_28 : Kd.C kPr w A1_28 l1_28.length l1_28) (hc1_28 : l1_28.length ≤ c1_28) (h : laws_eqFace.f a0_0 a0_1 a0_2 a0_3 a0_4 a0_5 a0_6 a0_7 a0_8 a0_9 a0_10 a0_11 a0_12 a0_13 a0_14 a0_15 a0_16 a0_17 a0_18 a0_19 a0_20 a0_21 a0_22 a0_23 a0_24 a0_25 a0_26 a0_27 l0_28 a1_0 a1_1 a1_2 a1_3 a1_4 a1_5 a1_6 a1_7 a1_8 a1_9 a1_10 a1_11 a1_12 a1_13 a1_14 a1_15 a1_16 a1_17 a1_18 a1_19 a1_20 a1_21 a1_22 a1_23 a1_24 a1_25 a1_26 a1_27 l1_28 = some r) :
    Calls Tryd.prog 22 #[.agg #[.int .i8 a0_0, .int .i8 a0_1, .int .i8 a0_2, .int .i8 a0_3, .int .i8 a0_4, .int .i8 a0_5, .int .i8 a0_6, .int .i8 a0_7, .int .i8 a0_8, .int .i8 a0_9, .int .i8 a0_10, .int .i8 a0_11, .int .i8 a0_12, .int .i8 a0_13, .int .i8 a0_14, .int .i8 a0_15, .int .i8 a0_16, .int .i8 a0_17, .int .i8 a0_18, .int .i8 a0_19, .int .i8 a0_20, .int .i8 a0_21, .int .i8 a0_22, .int .i8 a0_23, .int .i8 a0_24, .int .i8 a0_25, .int .i8 a0_26, .int .i8 a0_27, .slice A0_28 l0_28.length c0_28], .agg #[.int .i8 a1_0, .int .i8 a1_1, .int .i8 a1_2, .int .i8 a1_3, .int .i8 a1_4, .int .i8 a1_5, .int .i8 a1_6, .int .i8 a1_7, .int .i8 a1_8, .int .i8 a1_9, .int .i8 a1_10, .int .i8 a1_11, .int .i8 a1_12, .int .i8 a1_13, .int .i8 a1_14, .int .i8 a1_15, .int .i8 a1_16, .int .i8 a1_17, .int .i8 a1_18, .int .i8 a1_19, .int .i8 a1_20, .int .i8 a1_21, .int .i8 a1_22, .int .i8 a1_23, .int .i8 a1_24, .int .i8 a1_25, .int .i8 a1_26, .int .i8 a1_27, .slice A1_28 l1_28.length c1_28]] w fun e w' => e = .returned (.bool r) ∧ Below w.heap.size w w' :=
  eqFace_calls [a0_0, a0_1, a0_2, a0_3, a0_4, a0_5, a0_6, a0_7, a0_8, a0_9, a0_10, a0_11, a0_12, a0_13, a0_14, a0_15, a0_16, a0_17, a0_18, a0_19, a0_20, a0_21, a0_22, a0_23, a0_24, a0_25, a0_26, a0_27] [a1_0, a1_1, a1_2, a1_3, a1_4, a1_5, a1_6, a1_7, a1_8, a1_9, a1_10, a1_11, a1_12, a1_13, a1_14, a1_15, a1_16, a1_17, a1_18, a1_19, a1_20, a1_21, a1_22, a1_23, a1_24, a1_25, a1_26, a1_27] rfl rfl A0_28 A1_28 c0_28 c1_28 l0_28 l1_28 hc0_28 hc1_28 w hr0_28 hr1_28 r h
end Go.Proofs.YticjkfacdmmopaaDoor.Ext
namespace Go.Proofs.YticjkfacdmmopaaDoor.Pure
open Go.RowKit Go.Proofs.YticjkfacdmmopaaDoor.Ext Go.Proofs.YticjkfacdmmopaaDoor.Q Go.Proofs.YticjkfacdmmopaaDoor.Txt Go.Proofs.YticjkfacdmmopaaDoor.Face Go.Proofs.YticjkfacdmmopaaDoorW.PrintWords Go.Proofs.YticjkfacdmmopaaDoorW.PrintLast Go.Proofs.YticjkfacdmmopaaDoorW.PrintMore
set_option linter.unusedVariables false
set_option linter.unusedSimpArgs false
set_option maxRecDepth 100000
theorem szFace_eq (L : List Int) (lp : List LP) (hp : lp.length ≤ 9223372036854775807) : laws_szFace.f (rd L 0) (rd L 1) (rd L 2) (rd L 3) (rd L 4) (rd L 5) (rd L 6) (rd L 7) (rd L 8) (rd L 9) (rd L 10) (rd L 11) (rd L 12) (rd L 13) (rd L 14) (rd L 15) (rd L 16) (rd L 17) (rd L 18) (rd L 19) (rd L 20) (rd L 21) (rd L 22) (rd L 23) (rd L 24) (rd L 25) (rd L 26) (rd L 27) lp 1048576 = some (if 1048576 < lp.length then -1 else 1048576 - (lp.length : Int)) := by
  unfold laws_szFace.f laws_szPairS.f
  rw [w64 (x := 1048576 - (lp.length : Int)) (by omega) (by omega)]
  by_cases h : 1048576 < lp.length
  · rw [if_pos (by omega), if_pos h, Option.bind_some, if_pos (by omega)]
  · rw [if_neg (by omega), if_neg h, Option.bind_some, if_neg (by omega)]
theorem toFace_eq (L : List Int) (lp : List LP) (hp : lp.length ≤ 1048576) : laws_toFace.f (rd L 0) (rd L 1) (rd L 2) (rd L 3) (rd L 4) (rd L 5) (rd L 6) (rd L 7) (rd L 8) (rd L 9) (rd L 10) (rd L 11) (rd L 12) (rd L 13) (rd L 14) (rd L 15) (rd L 16) (rd L 17) (rd L 18) (rd L 19) (rd L 20) (rd L 21) (rd L 22) (rd L 23) (rd L 24) (rd L 25) (rd L 26) (rd L 27) lp = some (rd L 0, rd L 1, rd L 2, rd L 3, rd L 4, rd L 5, rd L 6, rd L 7, rd L 8, rd L 9, rd L 10, rd L 11, rd L 12, rd L 13, rd L 14, rd L 15, rd L 16, rd L 17, rd L 18, rd L 19, rd L 20, rd L 21, rd L 22, rd L 23, rd L 24, rd L 25, rd L 26, rd L 27, lp.map toP) := by
  unfold laws_toFace.f
  rw [if_pos hp]
theorem eqPairS_l0 (P : List Pr) (hP : P.length ≤ 4611686018427387904) : ∀ (d k n : Nat), n + d = P.length → d < k → laws_eqPairS.l0 k P P n = some true
  | 0, k, n, hd, hk => by
    obtain ⟨k, rfl⟩ := some_k hk
    rw [laws_eqPairS.l0, if_neg (by omega)]
  | d + 1, k, n, hd, hk => by
    obtain ⟨k, rfl⟩ := some_k hk
    rw [laws_eqPairS.l0, if_pos (by omega), if_pos (by omega), if_pos (by omega), laws_eqPair.f, if_pos rfl, if_pos rfl, if_pos rfl, Option.bind_some, if_pos rfl, wrap_succ n (by omega)]
    exact eqPairS_l0 P hP d k (n + 1) (by omega) (by omega)
theorem eqFace_self (L : List Int) (P : List Pr) (hP : P.length ≤ 1048576) {k : Nat} (hk : 1048577 < k) : laws_eqFace.f (rd L 0) (rd L 1) (rd L 2) (rd L 3) (rd L 4) (rd L 5) (rd L 6) (rd L 7) (rd L 8) (rd L 9) (rd L 10) (rd L 11) (rd L 12) (rd L 13) (rd L 14) (rd L 15) (rd L 16) (rd L 17) (rd L 18) (rd L 19) (rd L 20) (rd L 21) (rd L 22) (rd L 23) (rd L 24) (rd L 25) (rd L 26) (rd L 27) P (rd L 0) (rd L 1) (rd L 2) (rd L 3) (rd L 4) (rd L 5) (rd L 6) (rd L 7) (rd L 8) (rd L 9) (rd L 10) (rd L 11) (rd L 12) (rd L 13) (rd L 14) (rd L 15) (rd L 16) (rd L 17) (rd L 18) (rd L 19) (rd L 20) (rd L 21) (rd L 22) (rd L 23) (rd L 24) (rd L 25) (rd L 26) (rd L 27) P = some true := by
  have h2 := eqPairS_l0 P (by omega) P.length (P.length + 1) 0 (by omega) (by omega)
  rw [show ((0 : Nat) : Int) = 0 from rfl] at h2
  unfold laws_eqFace.f eqFaceF laws_eqPairS.f
  rw [if_pos ⟨rfl, rfl, rfl⟩, if_pos rfl, h2]
theorem size_le {lp : List LP} (h : lp.length ≤ 1048576) : (lp.map toP).length ≤ 1048576 := by rwa [List.length_map]
theorem faceV_all (L : List Int) (hl : L.length = 28) (A : Option Addr) (n c : Nat) : faceV L A n c = #[.int .i8 (rd L 0), .int .i8 (rd L 1), .int .i8 (rd L 2), .int .i8 (rd L 3), .int .i8 (rd L 4), .int .i8 (rd L 5), .int .i8 (rd L 6), .int .i8 (rd L 7), .int .i8 (rd L 8), .int .i8 (rd L 9), .int .i8 (rd L 10), .int .i8 (rd L 11), .int .i8 (rd L 12), .int .i8 (rd L 13), .int .i8 (rd L 14), .int .i8 (rd L 15), .int .i8 (rd L 16), .int .i8 (rd L 17), .int .i8 (rd L 18), .int .i8 (rd L 19), .int .i8 (rd L 20), .int .i8 (rd L 21), .int .i8 (rd L 22), .int .i8 (rd L 23), .int .i8 (rd L 24), .int .i8 (rd L 25), .int .i8 (rd L 26), .int .i8 (rd L 27), .slice A n c] := by
  have e : faceV [rd L 0, rd L 1, rd L 2, rd L 3, rd L 4, rd L 5, rd L 6, rd L 7, rd L 8, rd L 9, rd L 10, rd L 11, rd L 12, rd L 13, rd L 14, rd L 15, rd L 16, rd L 17, rd L 18, rd L 19, rd L 20, rd L 21, rd L 22, rd L 23, rd L 24, rd L 25, rd L 26, rd L 27] A n c = #[.int .i8 (rd L 0), .int .i8 (rd L 1), .int .i8 (rd L 2), .int .i8 (rd L 3), .int .i8 (rd L 4), .int .i8 (rd L 5), .int .i8 (rd L 6), .int .i8 (rd L 7), .int .i8 (rd L 8), .int .i8 (rd L 9), .int .i8 (rd L 10), .int .i8 (rd L 11), .int .i8 (rd L 12), .int .i8 (rd L 13), .int .i8 (rd L 14), .int .i8 (rd L 15), .int .i8 (rd L 16), .int .i8 (rd L 17), .int .i8 (rd L 18), .int .i8 (rd L 19), .int .i8 (rd L 20), .int .i8 (rd L 21), .int .i8 (rd L 22), .int .i8 (rd L 23), .int .i8 (rd L 24), .int .i8 (rd L 25), .int .i8 (rd L 26), .int .i8 (rd L 27), .slice A n c] := rfl
  rwa [all28 L hl] at e
theorem rng_of {L : List Int} {P : List LP} (hb : ∀ y ∈ L, -128 ≤ y ∧ y ≤ 127) (hp : ∀ p ∈ P, (0 ≤ p.f0 ∧ p.f0 ≤ 255) ∧ (0 ≤ p.f1 ∧ p.f1 ≤ 255) ∧ (-128 ≤ p.f2 ∧ p.f2 ≤ 127)) : rngB L (P.map toP) = true := by
  unfold rngB
  rw [Bool.and_eq_true, List.all_eq_true, List.all_eq_true]
  refine ⟨fun y hy => inB_iff.2 (hb y hy), fun p hq => ?_⟩
  rw [List.mem_map] at hq
  obtain ⟨q, hq, rfl⟩ := hq
  have h := hp q hq
  rw [Bool.and_eq_true, Bool.and_eq_true]
  exact ⟨⟨inB_iff.2 h.1, inB_iff.2 h.2.1⟩, inB_iff.2 h.2.2⟩
theorem wf_i16 {y : Int} (h : (Lit.int .i16 y).wf = true) : -32768 ≤ y ∧ y ≤ 32767 := by simpa [Lit.wf, IntKind.min, IntKind.max, IntKind.signed, IntKind.bits] using h
end Go.Proofs.YticjkfacdmmopaaDoor.Pure
namespace Go.Proofs.YticjkfacdmmopaaDoor.Ext
open Go.RowKit Go.Proofs.YticjkfacdmmopaaDoorW.PrintWords Go.Proofs.YticjkfacdmmopaaDoorW.PrintLast Go.Proofs.YticjkfacdmmopaaDoorW.PrintMore
set_option linter.unusedVariables false
set_option linter.unusedSimpArgs false
open Go.RowKit Go.Proofs.YticjkfacdmmopaaDoor.Q Go.Proofs.YticjkfacdmmopaaDoor.Txt Go.Proofs.YticjkfacdmmopaaDoor.Face Go.Proofs.YticjkfacdmmopaaDoor.Pure Go.Proofs.YticjkfacdmmopaaDoorW.PrintWords Go.Proofs.YticjkfacdmmopaaDoorW.PrintLast Go.Proofs.YticjkfacdmmopaaDoorW.PrintMore
theorem below_lt {w : World} {g : Nat} {o : Obj} (h : w.heap[g]? = some o) : g < w.heap.size := (Array.getElem?_eq_some_iff.1 h).1
theorem below_lt2' {w : World} {g : Nat} {x : Option Obj} {o : Obj} (h : w.heap[g]? = x) (hx : x = some o) : g < w.heap.size := below_lt (h.trans hx)
theorem cell_heapX {w w' : World} {g n : Nat} (h : w'.heap[g]? = w.heap[g]?) : w'.cell? ⟨g, n, none⟩ = w.cell? ⟨g, n, none⟩ := by simp only [World.cell?, h]
theorem cellB1 {w w1 : World} {p : Addr} {v : Value} (h : w.cell? p = some v) (hb : Below w.heap.size w w1) : w1.cell? p = some v := (hb.cell (World.block_lt_of_cell? w _ h)).trans h
theorem info_faceP : (Tryd.prog.info? 32).map (·.size) = some 29 := by kernel_rfl
theorem lets_is (t : List UInt8) : Pure.letters t = lets t := rfl
end Go.Proofs.YticjkfacdmmopaaDoor.Ext
namespace Go.Proofs.YticjkfacdmmopaaDoor.Q
open Go.Proofs.YticjkfacdmmopaaDoor.Ext
open Go.RowKit Go.Proofs.YticjkfacdmmopaaDoorW.PrintWords Go.Proofs.YticjkfacdmmopaaDoorW.PrintLast Go.Proofs.YticjkfacdmmopaaDoorW.PrintMore
attribute [local go_sem] max2_int min2_int max_two min_two max_three min_three max_four min_four
set_option linter.unusedVariables false
set_option linter.unusedSimpArgs false
end Go.Proofs.YticjkfacdmmopaaDoor.Q
namespace Go.Proofs.YticjkfacdmmopaaDoor.Pure
open Go.RowKit Go.Proofs.YticjkfacdmmopaaDoor.Ext Go.Proofs.YticjkfacdmmopaaDoor.Q Go.Proofs.YticjkfacdmmopaaDoorW.PrintWords Go.Proofs.YticjkfacdmmopaaDoorW.PrintLast Go.Proofs.YticjkfacdmmopaaDoorW.PrintMore
set_option linter.unusedVariables false
set_option linter.unusedSimpArgs false
end Go.Proofs.YticjkfacdmmopaaDoor.Pure
namespace Go.Proofs.YticjkfacdmmopaaDoor.Ext
open Go.RowKit Go.Proofs.YticjkfacdmmopaaDoor.Q Go.Proofs.YticjkfacdmmopaaDoor.Txt Go.Proofs.YticjkfacdmmopaaDoor.Face Go.Proofs.YticjkfacdmmopaaDoor.Pure Go.Proofs.YticjkfacdmmopaaDoorW.PrintWords Go.Proofs.YticjkfacdmmopaaDoorW.PrintLast Go.Proofs.YticjkfacdmmopaaDoorW.PrintMore
set_option linter.unusedVariables false
set_option linter.unusedSimpArgs false
set_option maxRecDepth 100000
def FaceAt (w0 w : World) (g : Nat) (L : List Int) (P : List Pr) : Prop := IsS32 w0 w g (rd L 0) (rd L 1) (rd L 2) (rd L 3) (rd L 4) (rd L 5) (rd L 6) (rd L 7) (rd L 8) (rd L 9) (rd L 10) (rd L 11) (rd L 12) (rd L 13) (rd L 14) (rd L 15) (rd L 16) (rd L 17) (rd L 18) (rd L 19) (rd L 20) (rd L 21) (rd L 22) (rd L 23) (rd L 24) (rd L 25) (rd L 26) (rd L 27) P
theorem FaceAt.below {w0 w w1 : World} {g : Nat} {L : List Int} {P : List Pr} (h : FaceAt w0 w g L P) (hb : Below w.heap.size w w1) : FaceAt w0 w1 g L P := by
  obtain ⟨A, c, h1, h2, h3⟩ := h
  exact ⟨A, c, blk_below h1 hb, h2, h3⟩
theorem FaceAt.new {w w1 : World} {L : List Int} {P : List Pr} {A : Option Addr} {c g : Nat} (hl : L.length = 28) (h : w1.heap[g]? = some (.cells (faceV L A P.length c) 32 (0, 0))) (hg : w.heap.size ≤ g) (hr : Kd.C kPr w A P.length P) : FaceAt w w1 g L P := by
  rw [faceV_all L hl A P.length c] at h
  exact ⟨A, c, h, hg, hr⟩
open Go.RowKit Go.Proofs.YticjkfacdmmopaaDoorW.PrintWords Go.Proofs.YticjkfacdmmopaaDoorW.PrintLast Go.Proofs.YticjkfacdmmopaaDoorW.PrintMore
theorem info_i16 : (Tryd.prog.info? 57).map (fun i => (i.zero, i.size, i.bytes)) = some (some (.int .i16 0), 1, 2) := by kernel_rfl
theorem eqnil16 : ∀ (w : World) (a : Option Addr) (n c n' c' : Nat), (binOp .eql 164 (.slice a n c) (.slice none n' c')).run Tryd.prog w = .ok (.bool a.isNone) w := fun w a n c n' c' => Lib.run_eql_slice_nil w _ _ a n c n' c' Tryd.underlying164
set_option maxRecDepth 100000 in
set_option maxHeartbeats 1000000 in
theorem clone16_calls (A : Option Addr) (c : Nat) (l : List Int) (w : World) (hr : Kd.C (Kd.int .i16) w A l.length l) (hl : l.length ≤ 1048576) :
    Calls Tryd.prog 179 #[.slice A l.length c] w fun e w' => ∃ v0_ : Value, e = .returned v0_ ∧ Kd.R (Kd.int .i16) 57 w' w.heap.size (fun _ => True) v0_ l ∧ Below w.heap.size w w' := by
  cases A with
  | none =>
    have h0 : l = [] := by
      cases l with
      | nil => rfl
      | cons x xs => obtain ⟨ad, e, _⟩ := hr.2.2 (by simp); cases e
    subst h0
    have q := eqnil16
    go_enter Tryd.func179, Tryd.ntmps179
    go_wp2
    go_ret
    exact ⟨_, rfl, Kd.R_nil _ _ _ _ _, Below.refl _ _⟩
  | some ad =>
    have HR := Aside0.mk hr
    have HB := Aside0.mk (Below.refl w.heap.size w)
    have HN := Aside0.mk hl
    clear hr hl
    have q := eqnil16
    go_enter Tryd.func179, Tryd.ntmps179
    go_wp2_with (first | ((with_reducible refine gate_dst (N := 5) rfl ?_); refine Kd.R_lit (Kd.int .i16) _ 57 ?hg (N := 5) ?hd (xs := ([] : List Int)) (inner := []) (ok := fun _ => True) (okp := fun _ => True) ?hr ?hp (fun _ hk => hk) trivial (Below.refl _ _) (Nat.le_refl _) (by simp) ?_; (case hd => rfl); (case hg => rfl); (case hr => first | (go_simp; done) | (go_simp; rfl)); (case hp => exact (Reps.none _ _)); intro v115 w3 ho4 hb hg_ hnew_; clear hg_ hnew_; have HO := Aside0.mk (Kd.R_lower ho4 (below_size (by repeat (first | (with_reducible first | exact HB.out | apply below_alloc | apply pw_below_drewN | apply below_drew1) | exact HB.out)))); have n1_ := Aside0.mk (below_step (by repeat (first | (with_reducible first | exact HB.out | apply below_alloc | apply pw_below_drewN | apply below_drew1) | exact HB.out)) hb); clear HB; have HB := n1_; clear n1_; clear hb ho4) | ((with_reducible refine gate_builtin (b := .append) (xs := #[.tmp 5, .tmp 6]) rfl ?_); at_builtin; refine Kd.R_append_row (Value.int .i16) (0 : Int) (w0 := w) w.heap.size rfl (.tmp 5) (.tmp 6) 164 57 (.int .i16 0) 2 rfl Tryd.underlying164 info_i16 rfl (by decide) v115 [] l (some ad) l.length c (fun _ => True) rfl rfl (fun _ _ => trivial) HO.out (Kd.C_below HR.out HB.out) HB.out (below_size HB.out) (by have := HN.out; simp; omega) ?_; intro v119 w9 ho hb hg' hat))
    go_ret
    exact ⟨_, rfl, (by rw [List.nil_append] at ho; exact ho), hb⟩
theorem cellAt {w : World} {g : Nat} {t : TypeId} {k : IntKind} {l : List Int} {n : Nat} {x : Int} (h : w.heap[g]? = some (.cells (cellsK k l) t (0, 0))) (hn : n < l.length) (hx : rd l n = x) : w.cell? ⟨g, n, none⟩ = some (.int k x) := by
  rw [cellsK_cell h n hn, hx]
theorem reads_part {k : IntKind} {g : Nat} {t : TypeId} {l : List Int} {w : World} (hb : w.heap[g]? = some (.cells (cellsK k l) t (0, 0))) (n : Nat) (hn : n ≤ l.length) (hl : n ≤ 9223372036854775807) : Kd.C (Kd.int k) w (some ⟨g, 0, none⟩) (l.take n).length (l.take n) := by
  refine Kd.C_of_reads (enc := Value.int k) (d := (0 : Int)) (h1 := fun _ => rfl) ⟨rfl, by simp <;> omega, fun hp => ⟨_, rfl, fun j hj => ?_⟩⟩
  have hj' : j < n := by simp at hj; omega
  have := cellsK_cell hb j (by omega)
  rw [add_plain]
  rw [this]
  simp [rd, List.getElem?_take, hj']
theorem reads_new3 (W : World) (t : TypeId) (n : Nat) (hn : W.heap.size = n) (a b c : Int) : Kd.C (Kd.int .i16) (W.alloc (.cells #[.int .i16 a, .int .i16 b, .int .i16 c] t (0, 0))) (some ⟨n, 0, none⟩) 3 [a, b, c] := by
  subst hn
  have := reads_of_block (k := .i16) (l := [a, b, c]) (t := t) (by simp) (blk_new W (.cells #[.int .i16 a, .int .i16 b, .int .i16 c] t (0, 0)))
  simpa using this
theorem clone16_n (A : Option Addr) (n c : Nat) (l : List Int) (hn : l.length = n) (w : World) (hr : Kd.C (Kd.int .i16) w A l.length l) (hl : n ≤ 1048576) :
    Calls Tryd.prog 179 #[.slice A n c] w fun e w' => ∃ v0_ : Value, e = .returned v0_ ∧ Kd.R (Kd.int .i16) 57 w' w.heap.size (fun _ => True) v0_ l ∧ Below w.heap.size w w' := by
  subst hn
  exact clone16_calls A c l w hr hl
theorem split29 (L : List Int) (h : L.length = 29) : L.take 26 ++ [rd L 26, rd L 27, rd L 28] = L := by
  have e : L.drop 26 = [rd L 26, rd L 27, rd L 28] := by
    apply List.ext_getElem?
    intro i
    rcases i with _ | _ | _ | i
    · simp [rd, List.getElem?_drop, List.getElem?_eq_getElem (show 26 < L.length by omega)]
    · simp [rd, List.getElem?_drop, List.getElem?_eq_getElem (show 27 < L.length by omega)]
    · simp [rd, List.getElem?_drop, List.getElem?_eq_getElem (show 28 < L.length by omega)]
    · rw [List.getElem?_eq_none (by simp; omega), List.getElem?_eq_none (by simp)]
  rw [← e]; exact List.take_append_drop 26 L
set_option maxRecDepth 100000 in
set_option maxHeartbeats 2000000 in
theorem all_calls (L : List Int) (hL : L.length = 29) (w : World) :
    Calls Tryd.prog 158 #[.agg (cellsK .i16 L)] w fun e w' => ∃ v0_ : Value, e = .returned v0_ ∧ Kd.R (Kd.int .i16) 57 w' w.heap.size (fun _ => True) v0_ L ∧ Below w.heap.size w w' := by
  obtain ⟨a, ha⟩ : ∃ a, rd L (26 : Nat) = a := ⟨_, rfl⟩
  obtain ⟨b, hbb⟩ : ∃ b, rd L (27 : Nat) = b := ⟨_, rfl⟩
  obtain ⟨c, hc⟩ : ∃ c, rd L (28 : Nat) = c := ⟨_, rfl⟩
  have HS : L.take 26 ++ [a, b, c] = L := by rw [← ha, ← hbb, ← hc]; exact split29 L hL
  go_enter Tryd.func158, Tryd.ntmps158
  go_wp2_with fail
  refine start_ (n := 12) (S := fun w' => w'.heap[w.heap.size]? = some (.cells (cellsK .i16 L) 62 (0, 0)) ∧ w'.cell? ⟨w.heap.size, 26, none⟩ = some (.int .i16 a) ∧ w'.cell? ⟨w.heap.size, 27, none⟩ = some (.int .i16 b) ∧ w'.cell? ⟨w.heap.size, 28, none⟩ = some (.int .i16 c) ∧ Below w.heap.size w w') (ds := [10, 11]) #[false, false, false, false, false, false, false, false, false, false, false, false] (by kernel_rfl) rfl rfl ⟨(blk_below (blk_new w _) (below_drew (Below.refl _ _))), (cellAt (blk_below (blk_new w _) (below_drew (Below.refl _ _))) (by omega) ha), (cellAt (blk_below (blk_new w _) (below_drew (Below.refl _ _))) (by omega) hbb), (cellAt (blk_below (blk_new w _) (below_drew (Below.refl _ _))) (by omega) hc), (below_step (below_alloc (Below.refl _ _) _) (below_drew (Below.refl _ _)))⟩ (fun hHeld => ?_)
  refine pure_ (i := 0) (N := some 3) (v := ?_) (a' := ?_) #[true, false, false, false, false, false, false, false, false, false, false, false] rfl rfl (by kernel_rfl) (fun _ _ _ h => h) (Or.inl ⟨by rfl, ?_⟩) ?_ ?_
  rotate_left
  · intro w'
    go_simp
    with_reducible rfl
  rotate_left
  · simp only [Act.put, List.setIfInBounds_toArray, List.set_cons_zero, List.set_cons_succ, i64_w, i32_w]
    rfl
  refine pure_ (i := 1) (N := some 4) (v := ?_) (a' := ?_) #[true, true, false, false, false, false, false, false, false, false, false, false] rfl rfl (by kernel_rfl) (fun _ _ _ h => h) (Or.inl ⟨by rfl, ?_⟩) ?_ ?_
  rotate_left
  · intro w'
    go_simp
    with_reducible rfl
  rotate_left
  · simp only [Act.put, List.setIfInBounds_toArray, List.set_cons_zero, List.set_cons_succ, i64_w, i32_w]
    rfl
  refine pure_ (i := 3) (N := some 6) (v := ?_) (a' := ?_) #[true, true, false, true, false, false, false, false, false, false, false, false] rfl rfl (by kernel_rfl) (fun _ _ _ h => h) (Or.inl ⟨by rfl, ?_⟩) ?_ ?_
  rotate_left
  · intro w'
    go_simp
    with_reducible rfl
  rotate_left
  · simp only [Act.put, List.setIfInBounds_toArray, List.set_cons_zero, List.set_cons_succ, i64_w, i32_w]
    rfl
  refine pure_ (i := 5) (N := some 8) (v := ?_) (a' := ?_) #[true, true, false, true, false, true, false, false, false, false, false, false] rfl rfl (by kernel_rfl) (fun _ _ _ h => h) (Or.inl ⟨by rfl, ?_⟩) ?_ ?_
  rotate_left
  · intro w'
    go_simp
    with_reducible rfl
  rotate_left
  · simp only [Act.put, List.setIfInBounds_toArray, List.set_cons_zero, List.set_cons_succ, i64_w, i32_w]
    rfl
  refine pure_ (i := 7) (N := some 10) (v := ?_) (a' := ?_) #[true, true, false, true, false, true, false, true, false, false, false, false] rfl rfl (by kernel_rfl) (fun _ _ _ h => h) (Or.inl ⟨by rfl, ?_⟩) ?_ ?_
  rotate_left
  · intro w'
    go_simp
    with_reducible rfl
  rotate_left
  · simp only [Act.put, List.setIfInBounds_toArray, List.set_cons_zero, List.set_cons_succ, i64_w, i32_w]
    rfl
  refine take_ (i := 4) (N := some 7) (v := ?_) (a' := ?_) #[true, true, false, true, true, true, false, true, false, false, false, false] rfl rfl (by kernel_rfl) (fun _ _ _ h => h) (Or.inl ⟨by rfl, ?_⟩) hHeld ?_ ?_
  rotate_left
  · rintro w' ⟨s0, s1, s2, s3, s4⟩
    go_simp
    with_reducible rfl
  rotate_left
  · simp only [Act.put, List.setIfInBounds_toArray, List.set_cons_zero, List.set_cons_succ, i64_w, i32_w]
    rfl
  refine take_ (i := 6) (N := some 9) (v := ?_) (a' := ?_) #[true, true, false, true, true, true, true, true, false, false, false, false] rfl rfl (by kernel_rfl) (fun _ _ _ h => h) (Or.inl ⟨by rfl, ?_⟩) hHeld ?_ ?_
  rotate_left
  · rintro w' ⟨s0, s1, s2, s3, s4⟩
    go_simp
    with_reducible rfl
  rotate_left
  · simp only [Act.put, List.setIfInBounds_toArray, List.set_cons_zero, List.set_cons_succ, i64_w, i32_w]
    rfl
  refine take_ (i := 8) (N := some 11) (v := ?_) (a' := ?_) #[true, true, false, true, true, true, true, true, true, false, false, false] rfl rfl (by kernel_rfl) (fun _ _ _ h => h) (Or.inl ⟨by rfl, ?_⟩) hHeld ?_ ?_
  rotate_left
  · rintro w' ⟨s0, s1, s2, s3, s4⟩
    go_simp
    with_reducible rfl
  rotate_left
  · simp only [Act.put, List.setIfInBounds_toArray, List.set_cons_zero, List.set_cons_succ, i64_w, i32_w]
    rfl
  refine join_ (σ := Value × Value) 2 #[true, true, true, true, true, true, true, true, true, true, false, false] (fun s => [(5, s.1), (12, s.2)]) (fun s w' => (w'.heap[w.heap.size]? = some (.cells (cellsK .i16 L) 62 (0, 0)) ∧ w'.cell? ⟨w.heap.size, 26, none⟩ = some (.int .i16 a) ∧ w'.cell? ⟨w.heap.size, 27, none⟩ = some (.int .i16 b) ∧ w'.cell? ⟨w.heap.size, 28, none⟩ = some (.int .i16 c) ∧ Below w.heap.size w w') ∧ Kd.R (Kd.int .i16) 57 w' w.heap.size (fun _ => True) s.1 (L.take 26) ∧ ∃ A cc, s.2 = .slice A 3 cc ∧ Kd.C (Kd.int .i16) w' A 3 [a, b, c]) ?_ ?_
  rotate_left
  · intro hCont
    refine two_ (i := 2) (j := 9) (Ni := some 5) (Nj := some 12) #[true, true, true, true, true, true, true, true, true, false, false, false] #[true, true, false, true, true, true, true, true, true, true, false, false] rfl rfl rfl rfl (by kernel_rfl) (by decide) (by decide) (fun K hK => ?_) (fun K hK => ?_)
    · skip
      have hLow := hHeld.2.2.2.2
      refine goes_ Tryd.func179 (by kernel_rfl) rfl #[.slice (some ⟨w.heap.size, 0, none⟩) 26 26] (by rfl) rfl rfl (by simp only [List.map_toArray, List.map_cons, List.map_nil]; rfl) ?_
      with_reducible refine ((clone16_n _ 26 26 (L.take 26) (by simp; omega) _ (reads_part hHeld.1 26 (by omega) (by omega)) (by decide))).mono ?_
      rintro e w3 ⟨v5, rfl, ho, hb⟩
      refine ⟨_, rfl, ?_⟩
      refine hK.out _ _ ⟨(blk_below hHeld.1 hb), (cellAt (blk_below hHeld.1 hb) (by omega) ha), (cellAt (blk_below hHeld.1 hb) (by omega) hbb), (cellAt (blk_below hHeld.1 hb) (by omega) hc), (below_step hHeld.2.2.2.2 hb)⟩ (fun hHeld => ?_)
      clear hK K
      refine norm_ (a' := ?_) ?_ ?_
      rotate_left
      · show Act.put _ (some 5) _ = _
        simp only [Act.put, List.setIfInBounds_toArray, List.set_cons_zero, List.set_cons_succ, i64_w, i32_w]
        rfl
      refine one_ (i := 9) (N := some 12) #[true, true, true, true, true, true, true, true, true, true, false, false] rfl rfl (by kernel_rfl) (by decide) (fun K hK => ?_)
      refine value_ (w1 := ?_) (v := ?_) (by rfl) rfl ?_ ?_
      rotate_left 2
      · go_simp
        constructor
        · rfl
        · rfl
      refine hK.out _ _ ⟨(blk_alloc hHeld.1 _), (cellAt (blk_alloc hHeld.1 _) (by omega) ha), (cellAt (blk_alloc hHeld.1 _) (by omega) hbb), (cellAt (blk_alloc hHeld.1 _) (by omega) hc), (below_alloc hHeld.2.2.2.2 _)⟩ (fun hHeld => ?_)
      clear hK K
      refine norm_ (a' := ?_) ?_ ?_
      rotate_left
      · show Act.put _ (some 12) _ = _
        simp only [Act.put, List.setIfInBounds_toArray, List.set_cons_zero, List.set_cons_succ, i64_w, i32_w]
        rfl
      exact norm_ (by simp only [putAll, Act.put, List.setIfInBounds_toArray, List.set_cons_zero, List.set_cons_succ]) (hCont (v5, .slice (some ⟨w3.heap.size, 0, none⟩) 3 3) _ ⟨hHeld, Kd.R_alloc (Kd.R_lower ho (below_size hLow)) _, ⟨_, _, rfl, reads_new3 _ _ _ rfl a b c⟩⟩)
    · skip
      refine value_ (w1 := ?_) (v := ?_) (by rfl) rfl ?_ ?_
      rotate_left 2
      · go_simp
        constructor
        · rfl
        · rfl
      refine hK.out _ _ ⟨(blk_alloc hHeld.1 _), (cellAt (blk_alloc hHeld.1 _) (by omega) ha), (cellAt (blk_alloc hHeld.1 _) (by omega) hbb), (cellAt (blk_alloc hHeld.1 _) (by omega) hc), (below_alloc hHeld.2.2.2.2 _)⟩ (fun hHeld => ?_)
      clear hK K
      refine norm_ (a' := ?_) ?_ ?_
      rotate_left
      · show Act.put _ (some 12) _ = _
        simp only [Act.put, List.setIfInBounds_toArray, List.set_cons_zero, List.set_cons_succ, i64_w, i32_w]
        rfl
      refine one_ (i := 2) (N := some 5) #[true, true, true, true, true, true, true, true, true, true, false, false] rfl rfl (by kernel_rfl) (by decide) (fun K hK => ?_)
      have hLow := hHeld.2.2.2.2
      refine goes_ Tryd.func179 (by kernel_rfl) rfl #[.slice (some ⟨w.heap.size, 0, none⟩) 26 26] (by rfl) rfl rfl (by simp only [List.map_toArray, List.map_cons, List.map_nil]; rfl) ?_
      with_reducible refine ((clone16_n _ 26 26 (L.take 26) (by simp; omega) _ (reads_part hHeld.1 26 (by omega) (by omega)) (by decide))).mono ?_
      rintro e w3 ⟨v5, rfl, ho, hb⟩
      refine ⟨_, rfl, ?_⟩
      refine hK.out _ _ ⟨(blk_below hHeld.1 hb), (cellAt (blk_below hHeld.1 hb) (by omega) ha), (cellAt (blk_below hHeld.1 hb) (by omega) hbb), (cellAt (blk_below hHeld.1 hb) (by omega) hc), (below_step hHeld.2.2.2.2 hb)⟩ (fun hHeld => ?_)
      clear hK K
      refine norm_ (a' := ?_) ?_ ?_
      rotate_left
      · show Act.put _ (some 5) _ = _
        simp only [Act.put, List.setIfInBounds_toArray, List.set_cons_zero, List.set_cons_succ, i64_w, i32_w]
        rfl
      exact norm_ (by simp only [putAll, Act.put, List.setIfInBounds_toArray, List.set_cons_zero, List.set_cons_succ]) (hCont (v5, .slice (some ⟨w.heap.size + 1, 0, none⟩) 3 3) _ ⟨hHeld, Kd.R_lower ho (below_size hLow), ⟨_, _, rfl, Kd.C_below (Kd.C_drew (reads_new3 _ _ _ (by simp) a b c)) hb⟩⟩)
  rintro ⟨v5, v12⟩ w' ⟨hHeld, hO, A, cc, e12, hC⟩
  dsimp only at e12
  subst e12
  refine norm_ (a' := ?_) ?_ ?_
  rotate_left
  · simp only [putAll, Act.put, List.setIfInBounds_toArray, List.set_cons_zero, List.set_cons_succ]
    rfl
  refine last_ (i := 10) (N := some 13) #[true, true, true, true, true, true, true, true, true, true, true, false] rfl rfl (by kernel_rfl) (by decide) (fun K hK => ?_)
  refine Kd.R_append_rows_step (Kd.int .i16) (Rr := (Kd.int .i16).K w') (w0 := w) w.heap.size (by rfl) (.tmp 5) (.tmp 12) 164 57 (.int .i16 0) 2 rfl Tryd.underlying164 info_i16 rfl (by decide) (by omega) v5 (L.take 26) [a, b, c] A 3 cc (fun _ => True) (fun _ => False) rfl rfl hO hC (fun _ _ h => h) (fun _ h => h.elim) (fun _ _ => trivial) hHeld.2.2.2.2 (below_size hHeld.2.2.2.2) (by simp; omega) ?_
  intro v13 w3 ho3 hb3 hg3 hat3
  refine hK.out _ _ ?_
  clear hK K
  refine norm_ (a' := ?_) ?_ ?_
  rotate_left
  · show Act.put _ (some 13) _ = _
    simp only [Act.put, List.setIfInBounds_toArray, List.set_cons_zero, List.set_cons_succ, i64_w, i32_w]
    rfl
  refine pure_ (i := 11) (N := some 2) (v := ?_) (a' := ?_) #[true, true, true, true, true, true, true, true, true, true, true, true] rfl rfl (by kernel_rfl) (fun _ _ _ h => h) (Or.inl ⟨by rfl, ?_⟩) ?_ ?_
  rotate_left
  · intro w'
    go_simp
    with_reducible rfl
  rotate_left
  · simp only [Act.put, List.setIfInBounds_toArray, List.set_cons_zero, List.set_cons_succ, i64_w, i32_w]
    rfl
  refine done_ (by kernel_rfl) ?_
  go_wp2_with fail
  go_ret
  exact ⟨_, rfl, by rw [HS] at ho3; exact ho3, hb3⟩
def pricesB (l : List Int) : Bool := l.all fun n => inB n 0 1000
theorem pred_ValidPrices (w : World) : Predi16 159 #[] (fun n => !inB (wrap64 n) 0 1000) w := by
  intro W x hb
  go_enter Tryd.func159, Tryd.ntmps159
  go_wp2_with fail
  refine (within_calls _ _ _ _).mono ?_
  rintro e w' ⟨rfl, rfl⟩
  go_wp2_with fail
  go_ret
  exact ⟨rfl, hb⟩
theorem info_Prices : (Tryd.prog.info? 62).map (·.size) = some 29 := by kernel_rfl
set_option maxHeartbeats 1000000 in
theorem implValidPrices_calls (l : List Int) (hl : l.length = 29) (hw : ∀ y ∈ l, -32768 ≤ y ∧ y ≤ 32767) (w : World) :
    Calls Tryd.prog 138 #[.agg (cellsK .i16 l)] w fun e w' => e = .returned (.bool (pricesB l)) ∧ Below w.heap.size w w' := by
  have e1 : pricesB l = !(l.any fun n => !inB (wrap64 n) 0 1000) := by
    rw [Bool.eq_iff_iff]
    simp only [pricesB, List.all_eq_true, Bool.not_eq_true', List.any_eq_false, Bool.not_eq_false]
    constructor
    · intro h x hx
      have := hw x hx
      have hz : wrap64 x = x := by unfold wrap64; omega
      rw [hz]; simpa using h x hx
    · intro h x hx
      have := hw x hx
      have hz : wrap64 x = x := by unfold wrap64; omega
      have := h x hx
      rw [hz] at this; simpa using this
  have HSZ := Aside0.mk (show (Tryd.prog.info? 62).map (·.size) = some (cellsK .i16 l).size by rw [cellsK_size, hl]; exact info_Prices)
  have HL := Aside0.mk hl
  have HE := Aside0.mk e1
  have HB := Aside0.mk (below_alloc (Below.refl w.heap.size w) (.cells (cellsK .i16 l) 62))
  clear hl e1 hw
  go_enter Tryd.func138, Tryd.ntmps138
  go_wp2_with (first | ((with_reducible refine gate_dst (N := 3) rfl ?_); refine wpList_load_row rfl 62 (.tmp 1) rfl w.heap.size rfl _ _ _ _ (blk_new w _) Tryd.underlying62 rfl HSZ.out ?_) | fail)
  refine (all_calls l HL.out _).mono ?_
  rintro e w1 ⟨v0, rfl, hr, hb⟩
  obtain ⟨A, c, rfl, _, hC⟩ := Kd.R_reads hr
  have HC := Aside0.mk hC
  have HB := Aside0.mk (below_step HB.out hb)
  clear hr hb hC
  go_wp2_with fail
  refine (containsFunc_i16_n _ _ _ (enters_of Tryd.func159 (by kernel_rfl) rfl) _ l.length _ l rfl _ (pred_ValidPrices _) HC.out).mono ?_
  rintro e w2 ⟨rfl, hb2⟩
  have HB2 := Aside0.mk (below_step HB.out hb2)
  clear hb2
  rw [show (l.any fun n => !inB (wrap64 n) 0 1000) = !pricesB l by rw [HE.out]; simp]
  cases hB : pricesB l
  all_goals
    have HBB := Aside0.mk hB
    clear hB
    go_wp2_with fail
    go_ret
    exact ⟨by rw [HBB.out]; rfl, HB2.out⟩
set_option maxHeartbeats 1000000 in
theorem l06Prices_calls (g : Nat) (l : List Int) (hl : l.length = 29) (hw : ∀ y ∈ l, -32768 ≤ y ∧ y ≤ 32767) (w : World) (hb : w.heap[g]? = some (.cells (cellsK .i16 l) 62 (0, 0))) :
    Calls Tryd.prog 107 #[.pointer (some ⟨g, 0, none⟩)] w fun e w' => e = .returned (.bool (pricesB l)) ∧ w = w' := by
  have HB := Aside0.mk hb
  have HL := Aside0.mk hl
  have HW := Aside0.mk hw
  clear hb hl hw
  go_enter Tryd.func107, Tryd.ntmps107
  go_wp2
  go_loop [3] (fun i => ∃ n : Nat, n ≤ 26 ∧ i = .int .i64 n ∧ Aside0 ((l.take n).all (fun n => inB n 0 1000) = true)) (fun i => 26 - (intOf i).toNat)
  case atStart => exact ⟨0, by omega, rfl, ⟨by simp⟩⟩
  case round =>
    obtain ⟨n, hn, rfl, HA⟩ := hrel
    by_cases hlt : n < 26
    · have hltz : (n : Int) < 26 := by omega
      have hc : w.cell? ⟨g, n, none⟩ = some (.int .i16 (rd l n)) := cellsK_cell HB.out n (by have := HL.out; omega)
      have hbd := HW.out _ (rd_mem' l n (by have := HL.out; omega))
      have HS := Aside0.mk (all_snoc' (fun n => inB n 0 1000) l n (by have := HL.out; omega))
      have HF := Aside0.mk (all_take_false (fun n => inB n 0 1000) l n (by have := HL.out; omega))
      obtain ⟨hb1, hb2⟩ := hbd
      generalize rd l n = y at hc hb1 hb2 HS HF
      go_wp2_with fail
      refine (in_calls _ _ _ _).mono ?_
      rintro e w' ⟨rfl, rfl⟩
      cases hy : inB y 0 1000
      · have HY := Aside0.mk hy
        clear hy
        go_wp2_with fail
        go_ret
        exact ⟨by unfold pricesB; rw [HF.out HY.out]; rfl, rfl⟩
      · have HY := Aside0.mk hy
        clear hy
        go_wp2_with fail
        go_round
        case rel => exact ⟨n + 1, by omega, by go_num, ⟨by rw [HS.out, HA.out, HY.out]; rfl⟩⟩
        case measure => simp [intOf]; omega
    · have hltz : ¬ (n : Int) < 26 := by omega
      obtain rfl : n = 26 := by omega
      have ha := cellAt (n := 26) HB.out (by have := HL.out; omega) rfl
      have hbb := cellAt (n := 27) HB.out (by have := HL.out; omega) rfl
      have hc := cellAt (n := 28) HB.out (by have := HL.out; omega) rfl
      have S0 := Aside0.mk (all_snoc' (fun n => inB n 0 1000) l 26 (by have := HL.out; omega))
      have S1 := Aside0.mk (all_snoc' (fun n => inB n 0 1000) l 27 (by have := HL.out; omega))
      have S2 := Aside0.mk (all_snoc' (fun n => inB n 0 1000) l 28 (by have := HL.out; omega))
      have F0 := Aside0.mk (all_take_false (fun n => inB n 0 1000) l 26 (by have := HL.out; omega))
      have F1 := Aside0.mk (all_take_false (fun n => inB n 0 1000) l 27 (by have := HL.out; omega))
      have F2 := Aside0.mk (all_take_false (fun n => inB n 0 1000) l 28 (by have := HL.out; omega))
      have w0 := HW.out _ (rd_mem' l 26 (by have := HL.out; omega))
      have w1 := HW.out _ (rd_mem' l 27 (by have := HL.out; omega))
      have w2 := HW.out _ (rd_mem' l 28 (by have := HL.out; omega))
      generalize rd l (26 : Nat) = y0 at ha S0 F0 w0
      generalize rd l (27 : Nat) = y1 at hbb S1 F1 w1
      generalize rd l (28 : Nat) = y2 at hc S2 F2 w2
      obtain ⟨w01, w02⟩ := w0
      obtain ⟨w11, w12⟩ := w1
      obtain ⟨w21, w22⟩ := w2
      go_wp2_with fail
      refine (in_calls _ _ _ _).mono ?_
      rintro e w' ⟨rfl, rfl⟩
      cases hy0 : inB y0 0 1000
      · have HY := Aside0.mk hy0
        clear hy0
        go_wp2_with fail
        go_ret
        exact ⟨by unfold pricesB; rw [F0.out HY.out]; rfl, rfl⟩
      · have HY0 := Aside0.mk hy0
        clear hy0
        go_wp2_with fail
        refine (in_calls _ _ _ _).mono ?_
        rintro e w' ⟨rfl, rfl⟩
        cases hy1 : inB y1 0 1000
        · have HY := Aside0.mk hy1
          clear hy1
          go_wp2_with fail
          go_ret
          exact ⟨by unfold pricesB; rw [F1.out HY.out]; rfl, rfl⟩
        · have HY1 := Aside0.mk hy1
          clear hy1
          go_wp2_with fail
          refine (in_calls _ _ _ _).mono ?_
          rintro e w' ⟨rfl, rfl⟩
          have e : pricesB l = inB y2 0 1000 := by
            have h3 : (l.take 29).all (fun n => inB n 0 1000) = ((l.take 28).all (fun n => inB n 0 1000) && inB y2 0 1000) := S2.out
            have h2 : (l.take 28).all (fun n => inB n 0 1000) = ((l.take 27).all (fun n => inB n 0 1000) && inB y1 0 1000) := S1.out
            have h1 : (l.take 27).all (fun n => inB n 0 1000) = ((l.take 26).all (fun n => inB n 0 1000) && inB y0 0 1000) := S0.out
            have h4 := HA.out
            rw [h2, h1, HY0.out, HY1.out, h4, List.take_of_length_le (by have := HL.out; omega)] at h3
            simpa [pricesB] using h3
          rw [← e]
          cases hp : pricesB l
          all_goals
            have HP := Aside0.mk hp
            clear hp e
            go_wp2_with fail
            go_ret
            exact ⟨by rw [HP.out]; rfl, rfl⟩
theorem set3 {w : World} {g : Nat} {t : TypeId} {L : List Int} {a b c : Int} (hL : L.length = 29) (HS : L.take 26 ++ [a, b, c] = L)
    (h : w.heap[g]? = some (.cells (cellsK .i16 (List.take 0 (List.replicate 29 (0 : Int)) ++ L.take 26 ++ List.drop (0 + (L.take 26).length) (List.replicate 29 (0 : Int)))) t (0, 0))) :
    (((w.setCell ⟨g, 26, none⟩ (.int .i16 a)).setCell ⟨g, 27, none⟩ (.int .i16 b)).setCell ⟨g, 28, none⟩ (.int .i16 c)).heap[g]? = some (.cells (cellsK .i16 L) t (0, 0)) := by
  have h3 := blk_set (blk_set (blk_set h 26 (.int .i16 a)) 27 (.int .i16 b)) 28 (.int .i16 c)
  rw [cellsK_set, cellsK_set, cellsK_set] at h3
  rw [h3]
  have hl : (L.take 26).length = 26 := by simp; omega
  have e : (((List.take 0 (List.replicate 29 (0 : Int)) ++ L.take 26 ++ List.drop (0 + (L.take 26).length) (List.replicate 29 (0 : Int))).set 26 a).set 27 b).set 28 c = L.take 26 ++ [a, b, c] := by
    rw [hl]
    generalize L.take 26 = l at hl
    simp only [List.take_zero, List.nil_append, Nat.zero_add]
    rw [show List.drop 26 (List.replicate 29 (0 : Int)) = [0, 0, 0] by rfl]
    rw [List.set_append_right _ _ (by omega), List.set_append_right _ _ (by omega), List.set_append_right _ _ (by omega), hl]
    rfl
  rw [e, HS]
set_option maxRecDepth 100000 in
set_option maxHeartbeats 2000000 in
theorem toPrices_calls (L : List Int) (hL : L.length = 29) (w : World) :
    Calls Tryd.prog 48 #[.agg (cellsK .i16 L)] w fun e w' => e = .returned (.agg (cellsK .i16 L)) ∧ Below w.heap.size w w' := by
  obtain ⟨a, ha⟩ : ∃ a, rd L (26 : Nat) = a := ⟨_, rfl⟩
  obtain ⟨b, hbb⟩ : ∃ b, rd L (27 : Nat) = b := ⟨_, rfl⟩
  obtain ⟨c, hc⟩ : ∃ c, rd L (28 : Nat) = c := ⟨_, rfl⟩
  have HS := Aside0.mk (show L.take 26 ++ [a, b, c] = L by rw [← ha, ← hbb, ← hc]; exact split29 L hL)
  have HL := Aside0.mk hL
  have HSZ := Aside0.mk (show (Tryd.prog.info? 62).map (·.size) = some (cellsK .i16 L).size by rw [cellsK_size, hL]; exact info_Prices)
  have Ha := Aside0.mk ha
  have Hb := Aside0.mk hbb
  have Hc := Aside0.mk hc
  have H0 := Aside0.mk (blk_new w (.cells (cellsK .i16 L) 60))
  have HB := Aside0.mk (below_alloc (Below.refl w.heap.size w) (.cells (cellsK .i16 L) 60))
  clear ha hbb hc hL
  go_enter Tryd.func48, Tryd.ntmps48
  go_wp2_with (first | ((with_reducible refine gate_dst (N := 5) rfl ?_); refine ev_load_at rfl 58 (.tmp 4) rfl w.heap.size 0 26 .i16 L rfl 60 _ (blk_alloc (blk_alloc H0.out _) _) Tryd.underlying58 rfl (by have := HL.out; omega) info_laws_toInt16A26 ?_) | fail)
  refine (laws_toInt16A26_calls _ (by have := HL.out; simp; omega) _).mono ?_
  rintro e w1 ⟨rfl, hb1⟩
  have HX := Aside0.mk (show L.take 26 ++ [a, b, c] = L from HS.out)
  replace HB := Aside0.mk (below_step (below_alloc (below_alloc HB.out _) _) hb1)
  have K0 := Aside0.mk (blk_below (blk_alloc (blk_alloc H0.out _) _) hb1)
  have K1 := Aside0.mk (blk_below (blk_alloc (blk_at (n := w.heap.size + 1) (by simp) _) _) hb1)
  have K2 := Aside0.mk (show w1.heap[w.heap.size + 2]? = some (.cells (cellsK .i16 (List.replicate 29 0)) 62 (0, 0)) from blk_below (blk_at (n := w.heap.size + 2) (by simp) _) hb1)
  clear H0 hb1
  go_wp2_with (first | ((with_reducible refine gate_store (t := 58) (p := 7) rfl ?_); refine ev_store_at rfl 58 (.tmp 7) (.tmp 6) rfl rfl (w.heap.size + 2) 0 .i16 (List.replicate 29 0) (L.take 26) rfl rfl _ K2.out (by have := HL.out; rw [show (L.take 26).length = 26 by simp; omega]; exact info_laws_toInt16A26) (by have := HL.out; simp; omega) ?_; intro w2 hb2 hk2 hbel2; have M0 := Aside0.mk ((hk2.2 w.heap.size (blk_lt K0.out) (by omega)).trans K0.out); have M1 := Aside0.mk ((hk2.2 (w.heap.size + 1) (blk_lt K1.out) (by omega)).trans K1.out); have M2 := Aside0.mk hb2; have MB := Aside0.mk (HB.out.trans (hbel2 _ (by omega))); clear hb2 hk2 hbel2 K0 K1 K2 HB; have c0 := cellAt M0.out (by have := HL.out; omega) Ha.out; have c1 := cellAt M0.out (by have := HL.out; omega) Hb.out; have c2 := cellAt M0.out (by have := HL.out; omega) Hc.out; have f0 := blk_frozen M2.out 26; have f1 := blk_frozen M2.out 27; have f2 := blk_frozen M2.out 28; have d0 := cellAt (n := 26) M2.out (by have := HL.out; simp; omega) rfl; have d1 := cellAt (n := 27) M2.out (by have := HL.out; simp; omega) rfl; have d2 := cellAt (n := 28) M2.out (by have := HL.out; simp; omega) rfl) | ((with_reducible refine gate_dst (N := 17) rfl ?_); refine wpList_load_row rfl 62 (.tmp 3) rfl (w.heap.size + 2) rfl _ _ _ _ (set3 HL.out HS.out M2.out) Tryd.underlying62 rfl HSZ.out ?_) | ((with_reducible refine gate_store (t := 62) (p := 2) rfl ?_); refine ev_store_row rfl 62 (.tmp 2) (.tmp 17) rfl rfl (w.heap.size + 1) (cellsK .i16 L) rfl rfl _ _ (blk_far (blk_far (blk_far M1.out (by simp <;> omega) _) (by simp <;> omega) _) (by simp <;> omega) _) HSZ.out (by rw [cellsK_size, HL.out]; rfl) (cellsK_one _ _) ?_; intro w3 hb3 hk3 hbel3))
  refine bodyPost_ret (results_cell_row rfl _ _ (w.heap.size + 1) _ (cellsK .i16 L) (0, 0) _ rfl hb3 Tryd.underlying62 rfl HSZ.out) rfl ⟨rfl, ?_⟩
  exact (((MB.out.setCell (by simp <;> omega) _).setCell (by simp <;> omega) _).setCell (by simp <;> omega) _).trans (hbel3 _ (by omega))
end Go.Proofs.YticjkfacdmmopaaDoor.Ext
