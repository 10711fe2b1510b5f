/- Contracts and plain laws of functions of the given program; no conditions beside those in the theorems. -/
import Derived.Test.YticjkfacdmmopaaDoorC3CheapestOf
import Derived.Test.YticjkfacdmmopaaDoorC4CheapestOf
import Derived.Test.YticjkfacdmmopaaDoorC0CheapestOf
import Derived.Test.YticjkfacdmmopaaDoorWMore
namespace Go.Proofs.YticjkfacdmmopaaDoor.Ext
end Go.Proofs.YticjkfacdmmopaaDoor.Ext
namespace Go.Proofs.YticjkfacdmmopaaDoor.Q
open Go.Proofs.YticjkfacdmmopaaDoor.Ext
open Go.RowKit Go.Proofs.YticjkfacdmmopaaDoorW.PrintWords Go.Proofs.YticjkfacdmmopaaDoorW.PrintLast Go.Proofs.YticjkfacdmmopaaDoorW.PrintMore
attribute [local go_sem] max2_int min2_int max_two min_two max_three min_three max_four min_four
set_option linter.unusedVariables false
set_option linter.unusedSimpArgs false
def impl_Prices_letter.f (a0_0 a0_1 a0_2 a0_3 a0_4 a0_5 a0_6 a0_7 a0_8 a0_9 a0_10 a0_11 a0_12 a0_13 a0_14 a0_15 a0_16 a0_17 a0_18 a0_19 a0_20 a0_21 a0_22 a0_23 a0_24 a0_25 a0_26 a0_27 a0_28 a1_0 a1_1 a1_2 a1_3 a1_4 a1_5 a1_6 a1_7 a1_8 a1_9 a1_10 a1_11 a1_12 a1_13 a1_14 a1_15 a1_16 a1_17 a1_18 a1_19 a1_20 a1_21 a1_22 a1_23 a1_24 a1_25 a1_26 a1_27 : Int) (l1_28 : List (S137)) (a2 : Int) : Option (Int) := if 0 ≤ ((a2 - 65) % 256) then (if ((a2 - 65) % 256) < 26 then ((impl_Face_letter.f a1_0 a1_1 a1_2 a1_3 a1_4 a1_5 a1_6 a1_7 a1_8 a1_9 a1_10 a1_11 a1_12 a1_13 a1_14 a1_15 a1_16 a1_17 a1_18 a1_19 a1_20 a1_21 a1_22 a1_23 a1_24 a1_25 a1_26 a1_27 l1_28 a2).bind fun t1538 => (some (wrap64 ((wrap64 (rd [a0_0, a0_1, a0_2, a0_3, a0_4, a0_5, a0_6, a0_7, a0_8, a0_9, a0_10, a0_11, a0_12, a0_13, a0_14, a0_15, a0_16, a0_17, a0_18, a0_19, a0_20, a0_21, a0_22, a0_23, a0_24, a0_25] ((a2 - 65) % 256))) + (wrap64 ((wrap64 (a0_26)) * t1538)))))) else (none)) else (none)
def impl_Prices_letter.T1 : Bool × List (List Nat × List Nat) := (true, [([], []), ([0], [0]), ([], []), ([2, 1], [1, 2]), ([3], [3]), ([4], [4]), ([], []), ([6], [6]), ([7], [7]), ([], []), ([], []), ([9, 10], [9, 10]), ([8, 11], [8, 11]), ([5, 12], [5, 12]), ([13, 11, 0, 1, 2, 3, 4, 5, 6, 7, 8, 9, 10, 11, 12, 13], [13])])
def impl_Prices_letter.B1 : List Nat := [0, 1, 0, 7, 15, 31, 0, 64, 192, 0, 0, 1536, 4032, 8191, 16383]
theorem impl_Prices_letter.tab1 : rtab .any (opsOf Tryd.f140 1) = impl_Prices_letter.T1 := by kernel_rfl
theorem impl_Prices_letter.bits1 : waitsOk impl_Prices_letter.T1.2 impl_Prices_letter.B1 = true := by kernel_rfl
set_option maxHeartbeats 8000000 in
set_option maxRecDepth 100000 in
theorem impl_Prices_letter.calls (a0_0 a0_1 a0_2 a0_3 a0_4 a0_5 a0_6 a0_7 a0_8 a0_9 a0_10 a0_11 a0_12 a0_13 a0_14 a0_15 a0_16 a0_17 a0_18 a0_19 a0_20 a0_21 a0_22 a0_23 a0_24 a0_25 a0_26 a0_27 a0_28 a1_0 a1_1 a1_2 a1_3 a1_4 a1_5 a1_6 a1_7 a1_8 a1_9 a1_10 a1_11 a1_12 a1_13 a1_14 a1_15 a1_16 a1_17 a1_18 a1_19 a1_20 a1_21 a1_22 a1_23 a1_24 a1_25 a1_26 a1_27 : Int) (A1_28 : Option Addr) (c1_28 : Nat) (l1_28 : List (S137)) (a2 : Int) (r : Int) (w : World) (hr1_28 : Kd.C k137 w A1_28 l1_28.length l1_28) (hc1_28 : l1_28.length ≤ c1_28) (h : impl_Prices_letter.f a0_0 a0_1 a0_2 a0_3 a0_4 a0_5 a0_6 a0_7 a0_8 a0_9 a0_10 a0_11 a0_12 a0_13 a0_14 a0_15 a0_16 a0_17 a0_18 a0_19 a0_20 a0_21 a0_22 a0_23 a0_24 a0_25 a0_26 a0_27 a0_28 a1_0 a1_1 a1_2 a1_3 a1_4 a1_5 a1_6 a1_7 a1_8 a1_9 a1_10 a1_11 a1_12 a1_13 a1_14 a1_15 a1_16 a1_17 a1_18 a1_19 a1_20 a1_21 a1_22 a1_23 a1_24 a1_25 a1_26 a1_27 l1_28 a2 = some r) :
    Calls Tryd.prog 140 #[.agg #[.int .i16 a0_0, .int .i16 a0_1, .int .i16 a0_2, .int .i16 a0_3, .int .i16 a0_4, .int .i16 a0_5, .int .i16 a0_6, .int .i16 a0_7, .int .i16 a0_8, .int .i16 a0_9, .int .i16 a0_10, .int .i16 a0_11, .int .i16 a0_12, .int .i16 a0_13, .int .i16 a0_14, .int .i16 a0_15, .int .i16 a0_16, .int .i16 a0_17, .int .i16 a0_18, .int .i16 a0_19, .int .i16 a0_20, .int .i16 a0_21, .int .i16 a0_22, .int .i16 a0_23, .int .i16 a0_24, .int .i16 a0_25, .int .i16 a0_26, .int .i16 a0_27, .int .i16 a0_28], .agg #[.int .i8 a1_0, .int .i8 a1_1, .int .i8 a1_2, .int .i8 a1_3, .int .i8 a1_4, .int .i8 a1_5, .int .i8 a1_6, .int .i8 a1_7, .int .i8 a1_8, .int .i8 a1_9, .int .i8 a1_10, .int .i8 a1_11, .int .i8 a1_12, .int .i8 a1_13, .int .i8 a1_14, .int .i8 a1_15, .int .i8 a1_16, .int .i8 a1_17, .int .i8 a1_18, .int .i8 a1_19, .int .i8 a1_20, .int .i8 a1_21, .int .i8 a1_22, .int .i8 a1_23, .int .i8 a1_24, .int .i8 a1_25, .int .i8 a1_26, .int .i8 a1_27, .slice A1_28 l1_28.length c1_28], .int .u8 a2] w fun e w' => e = .returned (.int .i64 r) ∧ Below w.heap.size w w' := by
  have hu62 := Tryd.underlying62
  have hu32 := Tryd.underlying32
  have HR1_28 := Aside0.mk hr1_28
  have HC1_28 := Aside0.mk hc1_28
  clear hr1_28 hc1_28
  have HB := Aside0.mk (Below.refl w.heap.size w)
  have H : (if 0 ≤ ((a2 - 65) % 256) then (if ((a2 - 65) % 256) < 26 then ((impl_Face_letter.f a1_0 a1_1 a1_2 a1_3 a1_4 a1_5 a1_6 a1_7 a1_8 a1_9 a1_10 a1_11 a1_12 a1_13 a1_14 a1_15 a1_16 a1_17 a1_18 a1_19 a1_20 a1_21 a1_22 a1_23 a1_24 a1_25 a1_26 a1_27 l1_28 a2).bind fun t1538 => (some (wrap64 ((wrap64 (rd [a0_0, a0_1, a0_2, a0_3, a0_4, a0_5, a0_6, a0_7, a0_8, a0_9, a0_10, a0_11, a0_12, a0_13, a0_14, a0_15, a0_16, a0_17, a0_18, a0_19, a0_20, a0_21, a0_22, a0_23, a0_24, a0_25] ((a2 - 65) % 256))) + (wrap64 ((wrap64 (a0_26)) * t1538)))))) else (none)) else (none)) = some r := h
  clear h
  obtain ⟨ji4, hji4⟩ : ∃ j_ : Int, ((a2 - 65) % 256) = j_ := ⟨_, rfl⟩
  replace H : (if 0 ≤ (ji4) then (if (ji4) < 26 then ((impl_Face_letter.f a1_0 a1_1 a1_2 a1_3 a1_4 a1_5 a1_6 a1_7 a1_8 a1_9 a1_10 a1_11 a1_12 a1_13 a1_14 a1_15 a1_16 a1_17 a1_18 a1_19 a1_20 a1_21 a1_22 a1_23 a1_24 a1_25 a1_26 a1_27 l1_28 a2).bind fun t1538 => (some (wrap64 ((wrap64 (rd [a0_0, a0_1, a0_2, a0_3, a0_4, a0_5, a0_6, a0_7, a0_8, a0_9, a0_10, a0_11, a0_12, a0_13, a0_14, a0_15, a0_16, a0_17, a0_18, a0_19, a0_20, a0_21, a0_22, a0_23, a0_24, a0_25] (ji4))) + (wrap64 ((wrap64 (a0_26)) * t1538)))))) else (none)) else (none)) = some r := by first | (rw [hji4] at H; exact H) | (simp only [hji4] at H ⊢; exact H)
  by_cases c5 : 0 ≤ (ji4)
  · rw [if_pos c5] at H
    have c5b0 : decide (0 ≤ (ji4)) = true := decide_eq_true c5
    clear c5
    by_cases c6 : (ji4) < 26
    · rw [if_pos c6] at H
      have c6b0 : decide ((ji4) < 26) = true := decide_eq_true c6
      clear c6
      replace H := Option.bind_eq_some_iff.mp H
      obtain ⟨t1538, A70, H⟩ := H
      replace H : (some (wrap64 ((wrap64 (rd [a0_0, a0_1, a0_2, a0_3, a0_4, a0_5, a0_6, a0_7, a0_8, a0_9, a0_10, a0_11, a0_12, a0_13, a0_14, a0_15, a0_16, a0_17, a0_18, a0_19, a0_20, a0_21, a0_22, a0_23, a0_24, a0_25] (ji4))) + (wrap64 ((wrap64 (a0_26)) * t1538))))) = some r := H
      have A7 := Aside0.mk A70
      clear A70
      obtain rfl := Option.some.inj H
      go_enter Tryd.func140, Tryd.ntmps140
      try go_wp2_with (first | ((with_reducible refine gate_dst (N := 3) rfl ?_); refine box_event ?hg (N := 3) ?hd (cs := #[.int .i16 a0_0, .int .i16 a0_1, .int .i16 a0_2, .int .i16 a0_3, .int .i16 a0_4, .int .i16 a0_5, .int .i16 a0_6, .int .i16 a0_7, .int .i16 a0_8, .int .i16 a0_9, .int .i16 a0_10, .int .i16 a0_11, .int .i16 a0_12, .int .i16 a0_13, .int .i16 a0_14, .int .i16 a0_15, .int .i16 a0_16, .int .i16 a0_17, .int .i16 a0_18, .int .i16 a0_19, .int .i16 a0_20, .int .i16 a0_21, .int .i16 a0_22, .int .i16 a0_23, .int .i16 a0_24, .int .i16 a0_25, .int .i16 a0_26, .int .i16 a0_27, .int .i16 a0_28]) (t := 62) ?hr ?_; (case hd => rfl); (case hg => rfl); (case hr => first | (go_simp; done) | (go_simp; rfl)); intro gb1536 hg w8 hbox hb; have n0_ := Aside0.mk (below_step (by repeat (first | (with_reducible first | exact HB.out | apply below_alloc | apply pw_below_drewN | apply below_drew1) | exact HB.out)) hb); have n1_ := Aside0.mk (hbox); have n2_ := Aside0.mk ((by rw [hg]; exact (below_size (by repeat (first | (with_reducible first | exact HB.out | apply below_alloc | apply pw_below_drewN | apply below_drew1) | exact HB.out))) : w.heap.size ≤ gb1536)); have n3_ := Aside0.mk ((by rw [hg]; exact (below_size (by repeat (first | (with_reducible first | exact HB.out | apply below_alloc | apply pw_below_drewN | apply below_drew1) | exact HB.out))) : w.heap.size ≤ gb1536)); clear HB; have HB := n0_; have BK1536 := n1_; have GW1536 := n2_; have GE1536 := n3_; clear n0_ n1_ n2_ n3_; clear hb hbox hg) | ((with_reducible refine gate_dst (N := 4) rfl ?_); refine box_event ?hg (N := 4) ?hd (cs := #[.int .i8 a1_0, .int .i8 a1_1, .int .i8 a1_2, .int .i8 a1_3, .int .i8 a1_4, .int .i8 a1_5, .int .i8 a1_6, .int .i8 a1_7, .int .i8 a1_8, .int .i8 a1_9, .int .i8 a1_10, .int .i8 a1_11, .int .i8 a1_12, .int .i8 a1_13, .int .i8 a1_14, .int .i8 a1_15, .int .i8 a1_16, .int .i8 a1_17, .int .i8 a1_18, .int .i8 a1_19, .int .i8 a1_20, .int .i8 a1_21, .int .i8 a1_22, .int .i8 a1_23, .int .i8 a1_24, .int .i8 a1_25, .int .i8 a1_26, .int .i8 a1_27, .slice A1_28 l1_28.length c1_28]) (t := 32) ?hr ?_; (case hd => rfl); (case hg => rfl); (case hr => first | (go_simp; done) | (go_simp; rfl)); intro gb1537 hg w9 hbox hb; have n0_ := Aside0.mk (blk_below (g := gb1536) (o := .cells #[.int .i16 a0_0, .int .i16 a0_1, .int .i16 a0_2, .int .i16 a0_3, .int .i16 a0_4, .int .i16 a0_5, .int .i16 a0_6, .int .i16 a0_7, .int .i16 a0_8, .int .i16 a0_9, .int .i16 a0_10, .int .i16 a0_11, .int .i16 a0_12, .int .i16 a0_13, .int .i16 a0_14, .int .i16 a0_15, .int .i16 a0_16, .int .i16 a0_17, .int .i16 a0_18, .int .i16 a0_19, .int .i16 a0_20, .int .i16 a0_21, .int .i16 a0_22, .int .i16 a0_23, .int .i16 a0_24, .int .i16 a0_25, .int .i16 a0_26, .int .i16 a0_27, .int .i16 a0_28] 62 (0, 0)) (by (with_reducible repeat (first | refine blk_drewN ?_ _ | refine blk_drew ?_ | refine blk_alloc ?_ _)); exact BK1536.out) hb); have n1_ := Aside0.mk (below_step (by repeat (first | (with_reducible first | exact HB.out | apply below_alloc | apply pw_below_drewN | apply below_drew1 | refine below_set ?_ GE1536.out) | exact HB.out)) hb); have n2_ := Aside0.mk (hbox); have n3_ := Aside0.mk ((by rw [hg]; exact (below_size (by repeat (first | (with_reducible first | exact HB.out | apply below_alloc | apply pw_below_drewN | apply below_drew1 | refine below_set ?_ GE1536.out) | exact HB.out))) : w.heap.size ≤ gb1537)); have n4_ := Aside0.mk ((by rw [hg]; exact (below_size (by repeat (first | (with_reducible first | exact HB.out | apply below_alloc | apply pw_below_drewN | apply below_drew1 | refine below_set ?_ GE1536.out) | exact HB.out))) : w.heap.size ≤ gb1537)); have n5_ := Aside0.mk ((by rw [hg]; exact Nat.ne_of_lt (blk_lt (g := gb1536) (o := .cells #[.int .i16 a0_0, .int .i16 a0_1, .int .i16 a0_2, .int .i16 a0_3, .int .i16 a0_4, .int .i16 a0_5, .int .i16 a0_6, .int .i16 a0_7, .int .i16 a0_8, .int .i16 a0_9, .int .i16 a0_10, .int .i16 a0_11, .int .i16 a0_12, .int .i16 a0_13, .int .i16 a0_14, .int .i16 a0_15, .int .i16 a0_16, .int .i16 a0_17, .int .i16 a0_18, .int .i16 a0_19, .int .i16 a0_20, .int .i16 a0_21, .int .i16 a0_22, .int .i16 a0_23, .int .i16 a0_24, .int .i16 a0_25, .int .i16 a0_26, .int .i16 a0_27, .int .i16 a0_28] 62 (0, 0)) (by (with_reducible repeat (first | refine blk_drewN ?_ _ | refine blk_drew ?_ | refine blk_alloc ?_ _)); exact BK1536.out)) : gb1536 ≠ gb1537)); have n6_ := Aside0.mk ((by rw [hg]; exact Nat.ne_of_gt (blk_lt (g := gb1536) (o := .cells #[.int .i16 a0_0, .int .i16 a0_1, .int .i16 a0_2, .int .i16 a0_3, .int .i16 a0_4, .int .i16 a0_5, .int .i16 a0_6, .int .i16 a0_7, .int .i16 a0_8, .int .i16 a0_9, .int .i16 a0_10, .int .i16 a0_11, .int .i16 a0_12, .int .i16 a0_13, .int .i16 a0_14, .int .i16 a0_15, .int .i16 a0_16, .int .i16 a0_17, .int .i16 a0_18, .int .i16 a0_19, .int .i16 a0_20, .int .i16 a0_21, .int .i16 a0_22, .int .i16 a0_23, .int .i16 a0_24, .int .i16 a0_25, .int .i16 a0_26, .int .i16 a0_27, .int .i16 a0_28] 62 (0, 0)) (by (with_reducible repeat (first | refine blk_drewN ?_ _ | refine blk_drew ?_ | refine blk_alloc ?_ _)); exact BK1536.out)) : gb1537 ≠ gb1536)); clear BK1536; clear HB; have BK1536 := n0_; have HB := n1_; have BK1537 := n2_; have GW1537 := n3_; have GE1537 := n4_; have NB1536_1537 := n5_; have NB1537_1536 := n6_; clear n0_ n1_ n2_ n3_ n4_ n5_ n6_; clear hb hbox hg))
      have n0_ := Aside0.mk (blk_drew BK1536.out)
      have n1_ := Aside0.mk (blk_drew BK1537.out)
      have n2_ := Aside0.mk (below_drew1 HB.out)
      clear BK1536
      clear BK1537
      clear HB
      have BK1536 := n0_
      have BK1537 := n1_
      have HB := n2_
      clear n0_ n1_ n2_
      have hpx11 : 0 ≤ ((ji4) : Int) := (by first | omega | exact of_decide_eq_true (by first | (with_reducible assumption) | assumption))
      have hqx11 : ((ji4) : Int) < (26 : Int) := (by first | omega | exact of_decide_eq_true (by first | (with_reducible assumption) | assumption))
      refine start_ (n := 15) (S := fun w' => w'.cell? ⟨gb1536, 26, none⟩ = some (.int .i16 a0_26) ∧ w'.cell? ⟨gb1536, 27, none⟩ = some (.int .i16 a0_27) ∧ w'.cell? ⟨gb1536, 28, none⟩ = some (.int .i16 a0_28) ∧ w'.heap[gb1537]? = some (.cells #[.int .i8 a1_0, .int .i8 a1_1, .int .i8 a1_2, .int .i8 a1_3, .int .i8 a1_4, .int .i8 a1_5, .int .i8 a1_6, .int .i8 a1_7, .int .i8 a1_8, .int .i8 a1_9, .int .i8 a1_10, .int .i8 a1_11, .int .i8 a1_12, .int .i8 a1_13, .int .i8 a1_14, .int .i8 a1_15, .int .i8 a1_16, .int .i8 a1_17, .int .i8 a1_18, .int .i8 a1_19, .int .i8 a1_20, .int .i8 a1_21, .int .i8 a1_22, .int .i8 a1_23, .int .i8 a1_24, .int .i8 a1_25, .int .i8 a1_26, .int .i8 a1_27, .slice A1_28 l1_28.length c1_28] 32 (0, 0)) ∧ w'.cell? ⟨gb1536, ((ji4) : Int).toNat, none⟩ = some (.int .i16 (rd [a0_0, a0_1, a0_2, a0_3, a0_4, a0_5, a0_6, a0_7, a0_8, a0_9, a0_10, a0_11, a0_12, a0_13, a0_14, a0_15, a0_16, a0_17, a0_18, a0_19, a0_20, a0_21, a0_22, a0_23, a0_24, a0_25] (ji4)))) (ds := []) #[false, false, false, false, false, false, false, false, false, false, false, false, false, false, false] (by kernel_rfl) rfl rfl ⟨(blk_cell BK1536.out 26).trans rfl, (blk_cell BK1536.out 27).trans rfl, (blk_cell BK1536.out 28).trans rfl, BK1537.out, ((blk_cell BK1536.out _).trans (arrx0_ .i16 [a0_0, a0_1, a0_2, a0_3, a0_4, a0_5, a0_6, a0_7, a0_8, a0_9, a0_10, a0_11, a0_12, a0_13, a0_14, a0_15, a0_16, a0_17, a0_18, a0_19, a0_20, a0_21, a0_22, a0_23, a0_24, a0_25] [.int .i16 a0_26, .int .i16 a0_27, .int .i16 a0_28] ((ji4) : Int) hpx11 hqx11))⟩ (fun hHeld => ?_); refine with_tabW impl_Prices_letter.tab1 impl_Prices_letter.bits1 (fun HT_ HW_ => ?_)
      generalize w9.drew = w10 at BK1536 BK1537 HB hHeld ⊢
      refine pure_ (i := 0) (N := some 7) (v := ?_) (a' := ?_) #[true, false, false, false, false, false, false, false, false, false, false, false, false, false, false] rfl rfl (any_of HT_.out (by kernel_rfl)) (fun _ _ _ h => h) (Or.inl ⟨by rfl, ?_⟩) ?_ ?_
      rotate_left
      · intro w'
        go_simp
        with_reducible rfl
      rotate_left
      · simp only [Act.put, List.setIfInBounds_toArray, List.set_cons_zero, List.set_cons_succ, i64_w, i32_w, u8_w_]
        rfl
      refine pure_ (i := 1) (N := some 8) (v := ?_) (a' := ?_) #[true, true, false, false, false, false, false, false, false, false, false, false, false, false, false] rfl rfl (any_of HT_.out (by kernel_rfl)) (fun _ _ _ h => h) (Or.inl ⟨by rfl, ?_⟩) ?_ ?_
      rotate_left
      · intro w'
        go_simp
        with_reducible rfl
      rotate_left
      · simp only [Act.put, List.setIfInBounds_toArray, List.set_cons_zero, List.set_cons_succ, i64_w, i32_w, u8_w_]
        rfl
      refine pure_ (i := 2) (N := some 9) (v := ?_) (a' := ?_) #[true, true, true, false, false, false, false, false, false, false, false, false, false, false, false] rfl rfl (any_of HT_.out (by kernel_rfl)) (fun _ _ _ h => h) (Or.inl ⟨by rfl, ?_⟩) ?_ ?_
      rotate_left
      · intro w'
        go_simp
        with_reducible rfl
      rotate_left
      · simp only [Act.put, List.setIfInBounds_toArray, List.set_cons_zero, List.set_cons_succ, i64_w, i32_w, u8_w_]
        rfl
      refine pure_ (i := 3) (N := some 10) (v := ?_) (a' := ?_) #[true, true, true, true, false, false, false, false, false, false, false, false, false, false, false] rfl rfl (any_of HT_.out (by kernel_rfl)) (fun _ _ _ h => h) (Or.inl ⟨by rfl, ?_⟩) ?_ ?_
      rotate_left
      · intro w'
        go_simp
        with_reducible rfl
      rotate_left
      · simp only [Act.put, List.setIfInBounds_toArray, List.set_cons_zero, List.set_cons_succ, i64_w, i32_w, u8_w_]
        rfl
      refine pure_ (i := 6) (N := some 13) (v := ?_) (a' := ?_) #[true, true, true, true, false, false, true, false, false, false, false, false, false, false, false] rfl rfl (any_of HT_.out (by kernel_rfl)) (fun _ _ _ h => h) (Or.inl ⟨by rfl, ?_⟩) ?_ ?_
      rotate_left
      · intro w'
        go_simp
        with_reducible rfl
      rotate_left
      · simp only [Act.put, List.setIfInBounds_toArray, List.set_cons_zero, List.set_cons_succ, i64_w, i32_w, u8_w_]
        rfl
      refine pure_ (i := 10) (N := some 17) (v := ?_) (a' := ?_) #[true, true, true, true, false, false, true, false, false, false, true, false, false, false, false] rfl rfl (any_of HT_.out (by kernel_rfl)) (fun _ _ _ h => h) (Or.inl ⟨by rfl, ?_⟩) ?_ ?_
      rotate_left
      · intro w'
        go_simp
        with_reducible rfl
      rotate_left
      · simp only [Act.put, List.setIfInBounds_toArray, List.set_cons_zero, List.set_cons_succ, i64_w, i32_w, u8_w_]
        rfl
      refine take_ (i := 4) (N := some 11) (v := ?_) (a' := ?_) #[true, true, true, true, true, false, true, false, false, false, true, false, false, false, false] rfl rfl (take_ofW HT_.out HW_.out (by kernel_rfl)) (fun _ _ _ h => h) (Or.inl ⟨by rfl, ?_⟩) hHeld ?_ ?_
      rotate_left
      · rintro w' ⟨s0, s1, s2, s3, s4⟩
        go_simp
        with_reducible rfl
      rotate_left
      · simp only [Act.put, List.setIfInBounds_toArray, List.set_cons_zero, List.set_cons_succ, i64_w, i32_w, u8_w_]
        rfl
      refine pure_ (i := 5) (N := some 12) (v := ?_) (a' := ?_) #[true, true, true, true, true, true, true, false, false, false, true, false, false, false, false] rfl rfl (any_of HT_.out (by kernel_rfl)) (fun _ _ _ h => h) (Or.inl ⟨by rfl, ?_⟩) ?_ ?_
      rotate_left
      · intro w'
        go_simp
        with_reducible rfl
      rotate_left
      · simp only [Act.put, List.setIfInBounds_toArray, List.set_cons_zero, List.set_cons_succ, i64_w, i32_w, u8_w_]
        rfl
      refine take_ (i := 7) (N := some 14) (v := ?_) (a' := ?_) #[true, true, true, true, true, true, true, true, false, false, true, false, false, false, false] rfl rfl (take_ofW HT_.out HW_.out (by kernel_rfl)) (fun _ _ _ h => h) (Or.inl ⟨by rfl, ?_⟩) hHeld ?_ ?_
      rotate_left
      · rintro w' ⟨s0, s1, s2, s3, s4⟩
        go_simp
        with_reducible rfl
      rotate_left
      · simp only [Act.put, List.setIfInBounds_toArray, List.set_cons_zero, List.set_cons_succ, i64_w, i32_w, u8_w_]
        rfl
      refine pure_ (i := 8) (N := some 15) (v := ?_) (a' := ?_) #[true, true, true, true, true, true, true, true, true, false, true, false, false, false, false] rfl rfl (any_of HT_.out (by kernel_rfl)) (fun _ _ _ h => h) (Or.inl ⟨by rfl, ?_⟩) ?_ ?_
      rotate_left
      · intro w'
        go_simp
        with_reducible rfl
      rotate_left
      · simp only [Act.put, List.setIfInBounds_toArray, List.set_cons_zero, List.set_cons_succ, i64_w, i32_w, u8_w_]
        rfl
      refine take_ (i := 9) (N := some 16) (v := ?_) (a' := ?_) #[true, true, true, true, true, true, true, true, true, true, true, false, false, false, false] rfl rfl (take_ofW HT_.out HW_.out (by kernel_rfl)) (fun _ _ _ h => h) (Or.inl ⟨by rfl, ?_⟩) hHeld ?_ ?_
      rotate_left
      · rintro w' ⟨s0, s1, s2, s3, s4⟩
        refine exec_load_partx_ 32 (.tmp 4) _ 0 [] [.int .i8 a1_0, .int .i8 a1_1, .int .i8 a1_2, .int .i8 a1_3, .int .i8 a1_4, .int .i8 a1_5, .int .i8 a1_6, .int .i8 a1_7, .int .i8 a1_8, .int .i8 a1_9, .int .i8 a1_10, .int .i8 a1_11, .int .i8 a1_12, .int .i8 a1_13, .int .i8 a1_14, .int .i8 a1_15, .int .i8 a1_16, .int .i8 a1_17, .int .i8 a1_18, .int .i8 a1_19, .int .i8 a1_20, .int .i8 a1_21, .int .i8 a1_22, .int .i8 a1_23, .int .i8 a1_24, .int .i8 a1_25, .int .i8 a1_26, .int .i8 a1_27, .slice A1_28 l1_28.length c1_28] [] rfl s3 ?_ ?_ Tryd.underlying32 rfl (by exact (show (Tryd.prog.info? 32).map (·.size) = some 29 by kernel_rfl))
        · rfl
        · rfl
      rotate_left
      · simp only [Act.put, List.setIfInBounds_toArray, List.set_cons_zero, List.set_cons_succ, i64_w, i32_w, u8_w_]
        rfl
      refine one_ (i := 11) (N := some 18) #[true, true, true, true, true, true, true, true, true, true, true, true, false, false, false] rfl rfl (one_of HT_.out (by kernel_rfl)) (by decide) (fun K hK => ?_)
      refine goes_ Tryd.func86 (by kernel_rfl) rfl #[.agg #[.int .i8 a1_0, .int .i8 a1_1, .int .i8 a1_2, .int .i8 a1_3, .int .i8 a1_4, .int .i8 a1_5, .int .i8 a1_6, .int .i8 a1_7, .int .i8 a1_8, .int .i8 a1_9, .int .i8 a1_10, .int .i8 a1_11, .int .i8 a1_12, .int .i8 a1_13, .int .i8 a1_14, .int .i8 a1_15, .int .i8 a1_16, .int .i8 a1_17, .int .i8 a1_18, .int .i8 a1_19, .int .i8 a1_20, .int .i8 a1_21, .int .i8 a1_22, .int .i8 a1_23, .int .i8 a1_24, .int .i8 a1_25, .int .i8 a1_26, .int .i8 a1_27, .slice A1_28 l1_28.length c1_28], .int .u8 a2] (by rfl) rfl rfl (by (try simp only [List.map_toArray, List.map_cons, List.map_nil]); first | done | rfl | (simp only [List.length_drop, List.length_take]; rfl)) ?_
      with_reducible refine (impl_Face_letter.calls a1_0 a1_1 a1_2 a1_3 a1_4 a1_5 a1_6 a1_7 a1_8 a1_9 a1_10 a1_11 a1_12 a1_13 a1_14 a1_15 a1_16 a1_17 a1_18 a1_19 a1_20 a1_21 a1_22 a1_23 a1_24 a1_25 a1_26 a1_27 _ _ l1_28 a2 t1538 _ ?side1 ?side2 A7.out).mono ?_
      (case side1 => repeat (first | exact (Kd.C_below HR1_28.out HB.out) | (with_reducible refine Kd.C_alloc ?_ _) | (with_reducible refine Kd.C_drewN ?_ _) | (with_reducible refine Kd.C_drew ?_)))
      (case side2 => exact HC1_28.out)
      rintro e w12 ⟨rfl, hb⟩
      refine ⟨_, rfl, ?_⟩
      have n0_ := Aside0.mk (blk_below (g := gb1536) (o := .cells #[.int .i16 a0_0, .int .i16 a0_1, .int .i16 a0_2, .int .i16 a0_3, .int .i16 a0_4, .int .i16 a0_5, .int .i16 a0_6, .int .i16 a0_7, .int .i16 a0_8, .int .i16 a0_9, .int .i16 a0_10, .int .i16 a0_11, .int .i16 a0_12, .int .i16 a0_13, .int .i16 a0_14, .int .i16 a0_15, .int .i16 a0_16, .int .i16 a0_17, .int .i16 a0_18, .int .i16 a0_19, .int .i16 a0_20, .int .i16 a0_21, .int .i16 a0_22, .int .i16 a0_23, .int .i16 a0_24, .int .i16 a0_25, .int .i16 a0_26, .int .i16 a0_27, .int .i16 a0_28] 62 (0, 0)) (by (with_reducible repeat (first | refine blk_drewN ?_ _ | refine blk_drew ?_ | refine blk_alloc ?_ _)); exact BK1536.out) hb)
      have n1_ := Aside0.mk (blk_below (g := gb1537) (o := .cells #[.int .i8 a1_0, .int .i8 a1_1, .int .i8 a1_2, .int .i8 a1_3, .int .i8 a1_4, .int .i8 a1_5, .int .i8 a1_6, .int .i8 a1_7, .int .i8 a1_8, .int .i8 a1_9, .int .i8 a1_10, .int .i8 a1_11, .int .i8 a1_12, .int .i8 a1_13, .int .i8 a1_14, .int .i8 a1_15, .int .i8 a1_16, .int .i8 a1_17, .int .i8 a1_18, .int .i8 a1_19, .int .i8 a1_20, .int .i8 a1_21, .int .i8 a1_22, .int .i8 a1_23, .int .i8 a1_24, .int .i8 a1_25, .int .i8 a1_26, .int .i8 a1_27, .slice A1_28 l1_28.length c1_28] 32 (0, 0)) (by (with_reducible repeat (first | refine blk_drewN ?_ _ | refine blk_drew ?_ | refine blk_alloc ?_ _)); exact BK1537.out) hb)
      have n2_ := Aside0.mk (below_step (by repeat (first | (with_reducible first | exact HB.out | apply below_alloc | apply pw_below_drewN | apply below_drew1 | refine below_set ?_ GE1536.out | refine below_set ?_ GE1537.out) | exact HB.out)) hb)
      clear BK1536
      clear BK1537
      clear HB
      have BK1536 := n0_
      have BK1537 := n1_
      have HB := n2_
      clear n0_ n1_ n2_
      (try clear hb)
      (try clear hb2)
      (try clear hk)
      (try clear hi)
      refine hK.out _ _ ⟨(blk_cell BK1536.out 26).trans rfl, (blk_cell BK1536.out 27).trans rfl, (blk_cell BK1536.out 28).trans rfl, BK1537.out, ((blk_cell BK1536.out _).trans (arrx0_ .i16 [a0_0, a0_1, a0_2, a0_3, a0_4, a0_5, a0_6, a0_7, a0_8, a0_9, a0_10, a0_11, a0_12, a0_13, a0_14, a0_15, a0_16, a0_17, a0_18, a0_19, a0_20, a0_21, a0_22, a0_23, a0_24, a0_25] [.int .i16 a0_26, .int .i16 a0_27, .int .i16 a0_28] ((ji4) : Int) hpx11 hqx11))⟩ (fun hHeld => ?_)
      clear hK K
      refine norm_ (a' := ?_) ?_ ?_
      rotate_left
      · show Act.put _ (some 18) _ = _
        simp only [Act.put, List.setIfInBounds_toArray, List.set_cons_zero, List.set_cons_succ, i64_w, i32_w, u8_w_]
        rfl
      refine pure_ (i := 12) (N := some 19) (v := ?_) (a' := ?_) #[true, true, true, true, true, true, true, true, true, true, true, true, true, false, false] rfl rfl (any_of HT_.out (by kernel_rfl)) (fun _ _ _ h => h) (Or.inl ⟨by rfl, ?_⟩) ?_ ?_
      rotate_left
      · intro w'
        go_simp
        with_reducible rfl
      rotate_left
      · simp only [Act.put, List.setIfInBounds_toArray, List.set_cons_zero, List.set_cons_succ, i64_w, i32_w, u8_w_]
        rfl
      refine pure_ (i := 13) (N := some 20) (v := ?_) (a' := ?_) #[true, true, true, true, true, true, true, true, true, true, true, true, true, true, false] rfl rfl (any_of HT_.out (by kernel_rfl)) (fun _ _ _ h => h) (Or.inl ⟨by rfl, ?_⟩) ?_ ?_
      rotate_left
      · intro w'
        go_simp
        with_reducible rfl
      rotate_left
      · simp only [Act.put, List.setIfInBounds_toArray, List.set_cons_zero, List.set_cons_succ, i64_w, i32_w, u8_w_]
        rfl
      refine pure_ (i := 14) (N := some 6) (v := ?_) (a' := ?_) #[true, true, true, true, true, true, true, true, true, true, true, true, true, true, true] rfl rfl (any_of HT_.out (by kernel_rfl)) (fun _ _ _ h => h) (Or.inl ⟨by rfl, ?_⟩) ?_ ?_
      rotate_left
      · intro w'
        go_simp
        with_reducible rfl
      rotate_left
      · simp only [Act.put, List.setIfInBounds_toArray, List.set_cons_zero, List.set_cons_succ, i64_w, i32_w, u8_w_]
        rfl
      refine done_ (done_of HT_.out (by kernel_rfl)) ?_
      try go_wp2
      go_ret
      exact ⟨by first | rfl | (simp [errW_none, errW_some] <;> rfl) | (simp only [← hji4]; first | rfl | (simp [errW_none, errW_some] <;> rfl)) | (simp [*, errW_none, errW_some] <;> rfl), by repeat (first | (with_reducible first | exact HB.out | apply below_alloc | apply pw_below_drewN | apply below_drew1 | refine below_set ?_ GE1536.out | refine below_set ?_ GE1537.out) | exact HB.out)⟩
    · rw [if_neg c6] at H
      exact absurd H (by simp)
  · rw [if_neg c5] at H
    exact absurd H (by simp)
end Go.Proofs.YticjkfacdmmopaaDoor.Q
namespace Go.Proofs.YticjkfacdmmopaaDoor.Ext
end Go.Proofs.YticjkfacdmmopaaDoor.Ext
namespace Go.Proofs.YticjkfacdmmopaaDoor.Q
open Go.Proofs.YticjkfacdmmopaaDoor.Ext
open Go.RowKit Go.Proofs.YticjkfacdmmopaaDoorW.PrintWords Go.Proofs.YticjkfacdmmopaaDoorW.PrintLast Go.Proofs.YticjkfacdmmopaaDoorW.PrintMore
attribute [local go_sem] max2_int min2_int max_two min_two max_three min_three max_four min_four
set_option linter.unusedVariables false
set_option linter.unusedSimpArgs false
def spec_l06Letters.l0 : Nat → ByteArray → List Int → Int → Option (List Int)
  | 0, _, _, _ => none
  | k + 1, x0, x3, x4 => if x4 < (x0.size : Int) then (if 0 ≤ x4 then (if (bt x0 x4) = 32 then (spec_l06Letters.l0 k x0 x3 (wrap64 (x4 + 1))) else (if x3.length < 140737488355328 then (spec_l06Letters.l0 k x0 (x3 ++ [bt x0 x4]) (wrap64 (x4 + 1))) else (none))) else (none)) else (some x3)
def spec_l06Letters.f (k : Nat) (a0 : ByteArray) : Option (List Int) := spec_l06Letters.l0 k a0 (([] : List Int)) 0
theorem spec_l06Letters.mono_l : ∀ k, (∀ y0 y1 y2, LeO (spec_l06Letters.l0 k y0 y1 y2) (spec_l06Letters.l0 (k + 1) y0 y1 y2))
  | 0 => fun _ _ _ r h => by simp [spec_l06Letters.l0] at h
  | k + 1 => by
    have ih0 := spec_l06Letters.mono_l k
    · intro y0 y1 y2
      unfold spec_l06Letters.l0
      repeat' first
      | (with_reducible exact ih0 _ _ _)
      | (with_reducible exact LeO.refl _)
      | (with_reducible exact LeO.none _)
      | (with_reducible refine LeO.ite ?_ ?_)
      | (with_reducible refine LeO.bind ?_ (fun _ => ?_))
      | exact ih0 _ _ _
      | exact LeO.none _
      | refine LeO.ite ?_ ?_
      | refine LeO.bind ?_ (fun _ => ?_)
theorem spec_l06Letters.mono : ∀ a0 k, LeO (spec_l06Letters.f k a0) (spec_l06Letters.f (k + 1) a0) := by
  intro a0 k
  have ih0 := spec_l06Letters.mono_l k
  unfold spec_l06Letters.f
  repeat' first
      | (with_reducible exact ih0 _ _ _)
      | (with_reducible exact LeO.refl _)
      | (with_reducible exact LeO.none _)
      | (with_reducible refine LeO.ite ?_ ?_)
      | (with_reducible refine LeO.bind ?_ (fun _ => ?_))
      | exact ih0 _ _ _
      | exact LeO.none _
      | refine LeO.ite ?_ ?_
      | refine LeO.bind ?_ (fun _ => ?_)
set_option maxHeartbeats 8000000 in
set_option maxRecDepth 100000 in
theorem spec_l06Letters.calls (k : Nat) (a0 : ByteArray) (r : List Int) (w : World) (h : spec_l06Letters.f k a0 = some r) :
    Calls Tryd.prog 136 #[.string a0] w fun e w' => ∃ v0_ : Value, e = .returned (v0_) ∧ Kd.R (Kd.int .u8) 5 w' w.heap.size (fun _ => True) v0_ r ∧ Below w.heap.size w w' := by
  have HB := Aside0.mk (Below.refl w.heap.size w)
  have H : (spec_l06Letters.l0 k a0 (([] : List Int)) 0) = some r := h
  clear h
  obtain ⟨y1525, hy1525⟩ : ∃ y_ : List Int, y_ = (([] : List Int)) := ⟨_, rfl⟩
  replace H : (spec_l06Letters.l0 k a0 y1525 0) = some r := by first | (rw [hy1525]; with_reducible exact H) | (have H2_ := (Option.bind_some _ _).symm.trans H; rw [hy1525]; with_reducible exact H2_) | (have H2_ := (Option.bind_some _ _).symm.trans H; with_reducible exact H2_) | with_reducible exact H | (rw [hy1525]; exact H) | exact H
  have Ny1525 := Aside0.mk hy1525
  clear hy1525
  have H' := Aside0.mk H
  clear H
  go_enter Tryd.func136, Tryd.ntmps136
  go_wp2_with (first | ((with_reducible refine gate_dst (N := 5) rfl ?_); refine Kd.R_lit (Kd.int .u8) _ 5 ?hg (N := 5) ?hd (xs := ([] : List Int)) (inner := []) (ok := fun _ => True) (okp := fun _ => True) ?hr ?hp (fun _ hk => hk) trivial (Below.refl _ _) (Nat.le_refl _) (by simp) ?_; (case hd => rfl); (case hg => rfl); (case hr => first | (go_simp; done) | (go_simp; rfl)); (case hp => exact (Reps.none _ _)); intro v1526 w2 ho3 hb hg_ hnew_; clear hg_ hnew_; (first | rw [← Ny1525.out] at ho3 | (simp only [Int.reduceToNat] at ho3; rw [← Ny1525.out] at ho3)); have n0_ := Aside0.mk (Kd.R_lower ho3 (below_size (by repeat (first | (with_reducible first | exact HB.out | apply below_alloc | apply pw_below_drewN | apply below_drew1) | exact HB.out)))); have n1_ := Aside0.mk (below_step (by repeat (first | (with_reducible first | exact HB.out | apply below_alloc | apply pw_below_drewN | apply below_drew1) | exact HB.out)) hb); clear HB; have HO1527 := n0_; have HB := n1_; clear n0_ n1_; clear hb ho3))
  go_loopg [3, 4] k (fun kq v3 v4 w' => ∃ (x3_1 : List Int) (x4_1 : Int), v4 = .int .i64 x4_1 ∧ Aside0 (spec_l06Letters.l0 kq a0 x3_1 x4_1 = some r) ∧ Aside0 (kq ≤ k) ∧ Aside0 (Kd.R (Kd.int .u8) 5 w' w.heap.size (fun _ => True) v3 x3_1) ∧ Aside0 (Below w.heap.size w w'))
  case atStart => exact ⟨(y1525), (0), (by first | rfl | (simp; done) | (simp [*]; done)), H', ⟨Nat.le_refl _⟩, ⟨by (with_reducible repeat (first | apply Kd.R_alloc | apply Kd.R_drewN | apply Kd.R_drew)); exact HO1527.out⟩, ⟨by repeat (first | (with_reducible first | exact HB.out | apply below_alloc | apply pw_below_drewN | apply below_drew1) | exact HB.out)⟩⟩
  case round =>
    clear H'
    try clear c1
    try clear p2
    obtain ⟨x3_1, x4_1, rfl, HA, HK1, HO_3, HB⟩ := hrel
    cases gk with
    | zero => exact absurd HA.out (by simp [spec_l06Letters.l0])
    | succ k1 =>
      have H := HA.out
      clear HA
      simp only [spec_l06Letters.l0] at H
      by_cases c4 : x4_1 < (a0.size : Int)
      · rw [if_pos c4] at H
        have c4b0 : decide (x4_1 < (a0.size : Int)) = true := decide_eq_true c4
        clear c4
        by_cases c5 : 0 ≤ x4_1
        · rw [if_pos c5] at H
          have c5b0 : decide (0 ≤ x4_1) = true := decide_eq_true c5
          clear c5
          by_cases c7 : (bt a0 x4_1) = 32
          · rw [if_pos c7] at H
            have c7b0 : ((bt a0 x4_1) == 32) = true := beq_iff_eq.mpr c7
            have c7b1 : ((bt a0 x4_1) != 32) = false := bne_eq_false_iff_eq.mpr c7
            clear c7
            have H' := Aside0.mk H
            clear H
            have p6 : 0 ≤ (x4_1 : Int) := of_decide_eq_true (by first | (with_reducible assumption) | assumption)
            have q6 : x4_1 < (a0.size : Int) := of_decide_eq_true (by first | (with_reducible assumption) | assumption)
            have hx6 := bt_at a0 x4_1
            replace p6 := eq_true p6
            replace q6 := eq_true q6
            go_wp2
            go_roundg k1
            case measure => have := HK1.out; omega
            case rel => exact ⟨(x3_1), (wrap64 (x4_1 + 1)), (by first | rfl | (simp; done) | (simp [*]; done)), H', ⟨by have := HK1.out; omega⟩, ⟨by (with_reducible repeat (first | apply Kd.R_alloc | apply Kd.R_drewN | apply Kd.R_drew)); exact HO_3.out⟩, ⟨by repeat (first | (with_reducible first | exact HB.out | apply below_alloc | apply pw_below_drewN | apply below_drew1) | exact HB.out)⟩⟩
          · rw [if_neg c7] at H
            have c7b0 : ((bt a0 x4_1) == 32) = false := beq_eq_false_iff_ne.mpr c7
            have c7b1 : ((bt a0 x4_1) != 32) = true := bne_iff_ne.mpr c7
            by_cases c9 : x3_1.length < 140737488355328
            · rw [if_pos c9] at H
              have LMc9 := Aside0.mk c9
              clear c9
              obtain ⟨y1528, hy1528⟩ : ∃ y_ : List Int, y_ = (x3_1 ++ [bt a0 x4_1]) := ⟨_, rfl⟩
              replace H : (spec_l06Letters.l0 k1 a0 y1528 (wrap64 (x4_1 + 1))) = some r := by first | (rw [hy1528]; with_reducible exact H) | (have H2_ := (Option.bind_some _ _).symm.trans H; rw [hy1528]; with_reducible exact H2_) | (have H2_ := (Option.bind_some _ _).symm.trans H; with_reducible exact H2_) | with_reducible exact H | (rw [hy1528]; exact H) | exact H
              have Ny1528 := Aside0.mk hy1528
              clear hy1528
              have H' := Aside0.mk H
              clear H
              have p6 : 0 ≤ (x4_1 : Int) := of_decide_eq_true (by first | (with_reducible assumption) | assumption)
              have q6 : x4_1 < (a0.size : Int) := of_decide_eq_true (by first | (with_reducible assumption) | assumption)
              have hx6 := bt_at a0 x4_1
              replace p6 := eq_true p6
              replace q6 := eq_true q6
              have p8 : 0 ≤ (x4_1 : Int) := of_decide_eq_true (by first | (with_reducible assumption) | assumption)
              have q8 : x4_1 < (a0.size : Int) := of_decide_eq_true (by first | (with_reducible assumption) | assumption)
              have hx8 := bt_at a0 x4_1
              replace p8 := eq_true p8
              replace q8 := eq_true q8
              go_wp2_with (first | ((with_reducible refine gate_builtin (b := .append) (xs := #[.tmp 16, .tmp 20]) rfl ?_); at_builtin; refine Kd.R_append (Kd.int .u8) (w0 := w) w.heap.size rfl (.tmp 16) (.tmp 20) 105 5 (.int .u8 0) 1 rfl Tryd.underlying105 info5 rfl (by decide) (by omega) u3 x3_1 (bt a0 x4_1) [.int .u8 (bt a0 x4_1)] (fun _ => True) (fun _ => False) rfl rfl ?aP (fun _ hk => hk.elim) ?aF ?aO ?aB ?aS ?aL ?_; (case aP => exact rfl); (case aB => exact (by repeat (first | (with_reducible first | exact HB.out | apply below_alloc | apply pw_below_drewN | apply below_drew1) | exact HB.out))); (case aF => exact (fun _ _ => trivial)); (case aO => exact (by (with_reducible repeat (first | apply Kd.R_alloc | apply Kd.R_drewN | apply Kd.R_drew)); exact HO_3.out)); (case aS => exact (below_size (by repeat (first | (with_reducible first | exact HB.out | apply below_alloc | apply pw_below_drewN | apply below_drew1) | exact HB.out)))); (case aL => have := LMc9.out; omega); intro v1529 w10 ho hb hg hat; rw [← Ny1528.out] at ho; have n0_ := Aside0.mk (hb); have n1_ := Aside0.mk (ho); clear HB; clear HO_3; have HB := n0_; have HO1530 := n1_; clear n0_ n1_; clear ho hb hg hat))
              go_roundg k1
              case measure => have := HK1.out; omega
              case rel => exact ⟨(y1528), (wrap64 (x4_1 + 1)), (by first | rfl | (simp; done) | (simp [*]; done)), H', ⟨by have := HK1.out; omega⟩, ⟨by (with_reducible repeat (first | apply Kd.R_alloc | apply Kd.R_drewN | apply Kd.R_drew)); exact HO1530.out⟩, ⟨by repeat (first | (with_reducible first | exact HB.out | apply below_alloc | apply pw_below_drewN | apply below_drew1) | exact HB.out)⟩⟩
            · rw [if_neg c9] at H
              exact absurd H (by simp)
        · rw [if_neg c5] at H
          exact absurd H (by simp)
      · rw [if_neg c4] at H
        have c4b0 : decide (x4_1 < (a0.size : Int)) = false := decide_eq_false c4
        clear c4
        obtain rfl := Option.some.inj H
        go_wp2
        go_ret
        exact ⟨_, by first | rfl | (simp [errW_none, errW_some] <;> rfl) | (simp [*, errW_none, errW_some] <;> rfl), by (with_reducible repeat (first | apply Kd.R_alloc | apply Kd.R_drewN | apply Kd.R_drew)); exact HO_3.out, by repeat (first | (with_reducible first | exact HB.out | apply below_alloc | apply pw_below_drewN | apply below_drew1) | exact HB.out)⟩
end Go.Proofs.YticjkfacdmmopaaDoor.Q
namespace Go.Proofs.YticjkfacdmmopaaDoor.Ext
open Go.RowKit Go.Proofs.YticjkfacdmmopaaDoor.Q Go.Proofs.YticjkfacdmmopaaDoor.Txt Go.Proofs.YticjkfacdmmopaaDoor.Face Go.Proofs.YticjkfacdmmopaaDoor.Pure Go.Proofs.YticjkfacdmmopaaDoorW.PrintWords Go.Proofs.YticjkfacdmmopaaDoorW.PrintLast Go.Proofs.YticjkfacdmmopaaDoorW.PrintMore
set_option linter.unusedVariables false
set_option linter.unusedSimpArgs false
set_option maxRecDepth 100000
def pB (L Q : List Int) (ch : UInt8) : Int := wrap64 (wrap64 (rd Q ((ch.toNat : Int) - 65)) + wrap64 (wrap64 (rd Q 26) * wB L ch))
def costL (L Q : List Int) (a : Int) : List UInt8 → Int
  | [] => a
  | ch :: t => costL L Q (wrap64 (a + pB L Q ch)) t
theorem costL_snoc (L Q : List Int) (ch : UInt8) : ∀ (t : List UInt8) (a : Int), costL L Q a (t ++ [ch]) = wrap64 (costL L Q a t + pB L Q ch)
  | [], a => rfl
  | c :: t, a => costL_snoc L Q ch t _
def priceT (L Q : List Int) (t : List UInt8) : Int := costL L Q (wrap64 (rd Q 27)) (lets t)
theorem all29 (Q : List Int) (hq : Q.length = 29) : [rd Q 0, rd Q 1, rd Q 2, rd Q 3, rd Q 4, rd Q 5, rd Q 6, rd Q 7, rd Q 8, rd Q 9, rd Q 10, rd Q 11, rd Q 12, rd Q 13, rd Q 14, rd Q 15, rd Q 16, rd Q 17, rd Q 18, rd Q 19, rd Q 20, rd Q 21, rd Q 22, rd Q 23, rd Q 24, rd Q 25, rd Q 26, rd Q 27, rd Q 28] = Q := by
  symm
  apply List.ext_getElem (by rw [hq]; rfl)
  intro i h1 h2
  rw [hq] at h1
  have h3 : rd Q (i : Int) = Q[i] := rd_get Q i (by omega)
  rw [← h3]
  clear h3
  match i, h1 with
  | 0, _ => rfl
  | 1, _ => rfl
  | 2, _ => rfl
  | 3, _ => rfl
  | 4, _ => rfl
  | 5, _ => rfl
  | 6, _ => rfl
  | 7, _ => rfl
  | 8, _ => rfl
  | 9, _ => rfl
  | 10, _ => rfl
  | 11, _ => rfl
  | 12, _ => rfl
  | 13, _ => rfl
  | 14, _ => rfl
  | 15, _ => rfl
  | 16, _ => rfl
  | 17, _ => rfl
  | 18, _ => rfl
  | 19, _ => rfl
  | 20, _ => rfl
  | 21, _ => rfl
  | 22, _ => rfl
  | 23, _ => rfl
  | 24, _ => rfl
  | 25, _ => rfl
  | 26, _ => rfl
  | 27, _ => rfl
  | 28, _ => rfl
  | i + 29, h => exact absurd h (by omega)
theorem pricesK_all (Q : List Int) (hq : Q.length = 29) : cellsK .i16 Q = #[.int .i16 (rd Q 0), .int .i16 (rd Q 1), .int .i16 (rd Q 2), .int .i16 (rd Q 3), .int .i16 (rd Q 4), .int .i16 (rd Q 5), .int .i16 (rd Q 6), .int .i16 (rd Q 7), .int .i16 (rd Q 8), .int .i16 (rd Q 9), .int .i16 (rd Q 10), .int .i16 (rd Q 11), .int .i16 (rd Q 12), .int .i16 (rd Q 13), .int .i16 (rd Q 14), .int .i16 (rd Q 15), .int .i16 (rd Q 16), .int .i16 (rd Q 17), .int .i16 (rd Q 18), .int .i16 (rd Q 19), .int .i16 (rd Q 20), .int .i16 (rd Q 21), .int .i16 (rd Q 22), .int .i16 (rd Q 23), .int .i16 (rd Q 24), .int .i16 (rd Q 25), .int .i16 (rd Q 26), .int .i16 (rd Q 27), .int .i16 (rd Q 28)] := by
  apply Array.toList_inj.1
  rw [cellsK]
  show (Q.map (Value.int .i16)) = _
  conv => lhs; rw [← all29 Q hq]
  rfl
theorem pr26 (Q : List Int) (hq : Q.length = 29) (i : Int) (h0 : 0 ≤ i) (h1 : i < 26) : rd [rd Q 0, rd Q 1, rd Q 2, rd Q 3, rd Q 4, rd Q 5, rd Q 6, rd Q 7, rd Q 8, rd Q 9, rd Q 10, rd Q 11, rd Q 12, rd Q 13, rd Q 14, rd Q 15, rd Q 16, rd Q 17, rd Q 18, rd Q 19, rd Q 20, rd Q 21, rd Q 22, rd Q 23, rd Q 24, rd Q 25] i = rd Q i := by
  have e : [rd Q 0, rd Q 1, rd Q 2, rd Q 3, rd Q 4, rd Q 5, rd Q 6, rd Q 7, rd Q 8, rd Q 9, rd Q 10, rd Q 11, rd Q 12, rd Q 13, rd Q 14, rd Q 15, rd Q 16, rd Q 17, rd Q 18, rd Q 19, rd Q 20, rd Q 21, rd Q 22, rd Q 23, rd Q 24, rd Q 25] = (List.range 26).map fun n : Nat => rd Q (n : Int) := rfl
  rw [e]
  unfold rd
  rw [List.getD_eq_getElem?_getD, List.getElem?_map, List.getElem?_range (by omega)]
  simp
theorem pletter_calls (L : List Int) (hl : L.length = 28) (Q : List Int) (hq : Q.length = 29) (A : Option Addr) (c : Nat) (P : List Pr) (F : FaceOk L P) (z y : Int) (ch : UInt8) (hz : z = (ch.toNat : Int)) (hch : 65 ≤ ch.toNat ∧ ch.toNat ≤ 90) (hy : y = pB L Q ch) (w : World) (hr : Kd.C kPr w A P.length P) (hc : P.length ≤ c) :
    Calls Tryd.prog 140 #[.agg (cellsK .i16 Q), .agg (faceV L A P.length c), .int .u8 z] w fun e w' => e = .returned (.int .i64 y) ∧ Below w.heap.size w w' := by
  subst hz hy
  rw [faceV_all L hl A P.length c, pricesK_all Q hq]
  refine impl_Prices_letter.calls (rd Q 0) (rd Q 1) (rd Q 2) (rd Q 3) (rd Q 4) (rd Q 5) (rd Q 6) (rd Q 7) (rd Q 8) (rd Q 9) (rd Q 10) (rd Q 11) (rd Q 12) (rd Q 13) (rd Q 14) (rd Q 15) (rd Q 16) (rd Q 17) (rd Q 18) (rd Q 19) (rd Q 20) (rd Q 21) (rd Q 22) (rd Q 23) (rd Q 24) (rd Q 25) (rd Q 26) (rd Q 27) (rd Q 28) (rd L 0) (rd L 1) (rd L 2) (rd L 3) (rd L 4) (rd L 5) (rd L 6) (rd L 7) (rd L 8) (rd L 9) (rd L 10) (rd L 11) (rd L 12) (rd L 13) (rd L 14) (rd L 15) (rd L 16) (rd L 17) (rd L 18) (rd L 19) (rd L 20) (rd L 21) (rd L 22) (rd L 23) (rd L 24) (rd L 25) (rd L 26) (rd L 27) A c P (ch.toNat : Int) (pB L Q ch) w hr hc ?_
  have e : ((ch.toNat : Int) - 65) % 256 = (ch.toNat : Int) - 65 := by omega
  unfold impl_Prices_letter.f
  rw [e, if_pos (by omega), if_pos (by omega), fletter_eq F ch hch.1 hch.2, Option.bind_some, pr26 Q hq _ (by omega) (by omega)]
  rfl
set_option maxHeartbeats 1000000 in
theorem price_calls (Q : List Int) (hq : Q.length = 29) (L : List Int) (hl : L.length = 28) (A : Option Addr) (c : Nat) (P : List Pr) (hF : FaceOk L P) (hc : P.length ≤ c) (s : ByteArray) (hs : s.size ≤ 60) (ht : okTxt s.data.toList) (w : World) (hr : Kd.C kPr w A P.length P) (hG : GlobM w) :
    Calls Tryd.prog 100 #[.agg (cellsK .i16 Q), .agg (faceV L A P.length c), .string s] w fun e w' => e = .returned (.int .i64 (priceT L Q s.data.toList)) ∧ Below w.heap.size w w' := by
  have hlet := Pure.lettersOf_eq s (by omega)
  have hle := Pure.letters_le s.data.toList
  rw [data_length] at hle
  rw [lets_is] at hlet hle
  obtain ⟨t, hT⟩ : ∃ t, t = lets s.data.toList := ⟨_, rfl⟩
  have hall : ∀ x ∈ t, 65 ≤ x.toNat ∧ x.toNat ≤ 90 := by
    intro x hx
    rw [hT] at hx
    unfold lets at hx
    rw [List.mem_filter] at hx
    exact (ht x hx.1).resolve_left (by simpa using hx.2)
  have hpl : priceT L Q s.data.toList = costL L Q (wrap64 (rd Q 27)) t := by rw [hT]; rfl
  rw [← hT] at hlet hle
  rw [hpl]
  have HLet := Aside0.mk hlet
  have HT := Aside0.mk hall
  have HLe := Aside0.mk hle
  have HF := Aside0.mk hF
  have HR := Aside0.mk hr
  have HC := Aside0.mk hc
  have HSZ : Aside0 ((Tryd.prog.info? 32).map (·.size) = some (faceV L A P.length c).size) := ⟨by rw [faceV_size, hl]; exact info_faceP⟩
  have HSQ : Aside0 ((Tryd.prog.info? 62).map (·.size) = some (cellsK .i16 Q).size) := ⟨by rw [cellsK_size, hq]; exact info_Prices⟩
  have B0 := Aside0.mk (blk_alloc (blk_new w (.cells (cellsK .i16 Q) 62)) (.cells (faceV L A P.length c) 32))
  have B1 := Aside0.mk (blk_at (W := w.alloc (.cells (cellsK .i16 Q) 62)) (n := w.heap.size + 1) (by simp) (.cells (faceV L A P.length c) 32))
  have HB := Aside0.mk (below_alloc (below_alloc (Below.refl w.heap.size w) (.cells (cellsK .i16 Q) 62)) (.cells (faceV L A P.length c) 32))
  obtain ⟨b0, hb0⟩ : ∃ b0, rd Q (27 : Nat) = b0 := ⟨_, rfl⟩
  have c27 := cellAt B0.out (n := 27) (by omega) hb0
  have HB0 := Aside0.mk hb0
  have HG := Aside0.mk hG
  clear hG hlet hle ht hT hpl hF hr hc hall hb0
  go_enter Tryd.func100, Tryd.ntmps100
  go_wp2_with fail
  refine (impl_lettersOf.calls s _ _ (HG.out.below HB.out) HLet.out).mono ?_
  rintro e w4 ⟨rfl, hb⟩
  replace B0 := Aside0.mk (blk_below B0.out hb)
  replace B1 := Aside0.mk (blk_below B1.out hb)
  replace HB := Aside0.mk (below_step HB.out hb)
  clear hb c27
  obtain ⟨S, hS⟩ : ∃ S : ByteArray, S = ⟨t.toArray⟩ := ⟨_, rfl⟩
  have hSd : S.data.toList = t := by rw [hS]
  have hSz : S.size = t.length := by rw [← data_length, hSd]
  rw [← hS]
  clear hS
  have HB5 := Aside0.mk (bytes_below HB.out HB.out.size 5 S)
  have hb5 : Below w4.heap.size w4 (Lib.bytesWorld w4 5 S) := bytes_below (Below.refl _ _) (Nat.le_refl _) 5 S
  have B6 := Aside0.mk (blk_below B0.out hb5)
  have B5 := Aside0.mk (blk_below B1.out hb5)
  clear hb5 B0 B1 HB
  have HSd := Aside0.mk hSd
  have HSz := Aside0.mk hSz
  clear hSd hSz
  have kb := fun W => print_bytes (P := Tryd.prog) 9 105 5 Tryd.underlying9 Tryd.underlying105 Tryd.underlying5 S W
  go_wp2_with fail
  go_loopw [7, 9, 17] (fun v _ i wr => ∃ n : Nat, n ≤ t.length ∧ i = .int .i64 n ∧ v = .int .i64 (costL L Q (wrap64 b0) (t.take n)) ∧ Aside0 (Below w.heap.size w wr) ∧ Aside0 (wr.heap[w.heap.size]? = some (.cells (cellsK .i16 Q) 62 (0, 0))) ∧ Aside0 (wr.heap[w.heap.size + 1]? = some (.cells (faceV L A P.length c) 32 (0, 0))) ∧ Aside0 (wr.heap[w4.heap.size]? = (Lib.bytesWorld w4 5 S).heap[w4.heap.size]?)) (fun v _ i _ => S.size - (intOf i).toNat)
  case atStart =>
    exact ⟨0, by omega, rfl, rfl, ⟨HB5.out⟩, ⟨B6.out⟩, ⟨B5.out⟩, ⟨rfl⟩⟩
  case round =>
    obtain ⟨n, hn, rfl, rfl, HB, B0, B1, HRw⟩ := hrel
    have hSz := HSz.out
    have h60 : t.length ≤ 60 := by have := HLe.out; omega
    by_cases hlt : n < t.length
    · have hltz : (n : Int) < S.size := by omega
      obtain ⟨ch, hcx⟩ : ∃ ch, ch = t.getD n 0 := ⟨_, rfl⟩
      have hch : 65 ≤ ch.toNat ∧ ch.toNat ≤ 90 := by
        rw [hcx, List.getD_eq_getElem?_getD, List.getElem?_eq_getElem hlt]
        exact HT.out _ (List.getElem_mem hlt)
      have hc : wr.cell? ⟨w4.heap.size, n, none⟩ = some (.int .u8 ch.toNat) := by
        rw [cell_heapX HRw.out, Lib.bytesWorld_cell w4 5 S n (by omega), HSd.out, hcx]
      obtain ⟨z, hzc⟩ : ∃ z : Int, z = (ch.toNat : Int) := ⟨_, rfl⟩
      rw [← hzc] at hc
      obtain ⟨y, hy⟩ : ∃ y, y = pB L Q ch := ⟨_, rfl⟩
      have hx : costL L Q (wrap64 b0) (t.take (n + 1)) = wrap64 (costL L Q (wrap64 b0) (t.take n) + y) := by
        rw [List.take_succ_eq_append_getElem hlt, costL_snoc, hy, hcx, List.getD_eq_getElem?_getD, List.getElem?_eq_getElem hlt]
        rfl
      obtain ⟨x, hxs⟩ : ∃ x, x = costL L Q (wrap64 b0) (t.take n) := ⟨_, rfl⟩
      rw [← hxs] at hx
      rw [← hxs]
      have HX := Aside0.mk hx
      have HZ := Aside0.mk hzc
      have HCh := Aside0.mk hch
      have HY := Aside0.mk hy
      clear hx hxs hcx hzc hch hSz hy
      go_wp2_with (first | ((with_reducible refine gate_dst (N := 22) rfl ?_); refine wpList_load_row rfl 62 (.tmp 3) rfl w.heap.size rfl 62 (cellsK .i16 Q) (0, 0) _ B0.out Tryd.underlying62 rfl HSQ.out ?_) | ((with_reducible refine gate_dst (N := 23) rfl ?_); refine wpList_load_row rfl 32 (.tmp 4) rfl (w.heap.size + 1) rfl 32 (faceV L A P.length c) (0, 0) _ B1.out Tryd.underlying32 rfl HSZ.out ?_) | fail)
      refine (pletter_calls L hl Q hq A c P HF.out z y ch HZ.out HCh.out HY.out _ (Kd.C_below HR.out HB.out) HC.out).mono ?_
      rintro e w6 ⟨rfl, hb⟩
      replace HRw := Aside0.mk ((hb.block _ (below_lt2' HRw.out (Lib.bytesWorld_at_new _ _ _))).trans HRw.out)
      replace B0 := Aside0.mk (blk_below B0.out hb)
      replace B1 := Aside0.mk (blk_below B1.out hb)
      replace HB := Aside0.mk (below_step HB.out hb)
      clear hb
      go_wp2_with (fail)
      go_roundw
      case rel =>
        exact ⟨n + 1, by omega, by go_num, by rw [HX.out], HB, B0, B1, HRw⟩
      case measure => simp [intOf]; have := HSz.out; omega
    · have hltz : ¬ (n : Int) < S.size := by omega
      obtain rfl : n = t.length := by omega
      clear hSz
      go_wp2
      go_ret
      refine ⟨?_, HB.out⟩
      show Ending.returned (.int .i64 (costL L Q (wrap64 b0) t)) = _
      rw [← HB0.out]
      rfl
def PricesAt (w : World) (g : Nat) (Q : List Int) : Prop := w.heap[g]? = some (.cells (cellsK .i16 Q) 62 (0, 0))
theorem face_blk {w0 w : World} {g : Nat} {L : List Int} {P : List Pr} (hl : L.length = 28) (h : FaceAt w0 w g L P) : ∃ A c, w.heap[g]? = some (.cells (faceV L A P.length c) 32 (0, 0)) := by
  obtain ⟨A, c, h1, _⟩ := h
  exact ⟨A, c, by rw [faceV_all L hl A P.length c]; exact h1⟩
set_option maxHeartbeats 1000000 in
theorem l06Letter_calls (L : List Int) (hl : L.length = 28) (P : List Pr) (hF : FaceOk L P) (Q : List Int) (hq : Q.length = 29) (z y : Int) (ch : UInt8) (hz : z = (ch.toNat : Int)) (hch : 65 ≤ ch.toNat ∧ ch.toNat ≤ 90) (hy : y = pB L Q ch) (g1 g2 : Nat) (w0 w : World) (hI : FaceAt w0 w g1 L P) (hJ : PricesAt w g2 Q) :
    Calls Tryd.prog 137 #[.pointer (some ⟨g1, 0, none⟩), .pointer (some ⟨g2, 0, none⟩), .int .u8 z] w fun e w' => e = .returned (.int .i64 y) ∧ Below w.heap.size w w' := by
  obtain ⟨A, c, hB⟩ := face_blk hl hI
  obtain ⟨q, hqz⟩ : ∃ q : Nat, (q : Int) = z - 65 := ⟨(z - 65).toNat, by omega⟩
  have hq26 : q < 26 := by omega
  obtain ⟨u, hu⟩ : ∃ u, rd Q (q : Int) = u := ⟨_, rfl⟩
  obtain ⟨v, hv⟩ : ∃ v, rd Q ((26 : Nat) : Int) = v := ⟨_, rfl⟩
  obtain ⟨x, hx⟩ : ∃ x, rd L (q : Int) = x := ⟨_, rfl⟩
  have hwb := wB_in hF.len hF.shape ch hch.1 hch.2
  have hxe : x = wB L ch := by rw [← hx, hqz, hz]; rfl
  have hxw : wrap64 x = x := w64 (by omega) (by omega)
  have hyy : y = wrap64 (wrap64 u + wrap64 (wrap64 v * x)) := by
    rw [hy, ← hu, hxe, ← hv, hqz, hz]; rfl
  have k1 := cellAt (k := .i16) (n := q) hJ (by omega) hu
  have k2 := cellAt (k := .i16) (n := 26) hJ (by omega) hv
  have k3 : w.cell? ⟨g1, q, none⟩ = some (.int .i8 x) := by rw [← hx]; exact face_cell hB q (by omega)
  rw [hyy]
  have hz1 : (z - 65) % 256 = q := by omega
  have hqw : IntKind.u8.wrap (z - 65) = q := by simp [IntKind.wrap, IntKind.signed, IntKind.bits]; omega
  have hqw2 : IntKind.u8.wrap (q : Int) = q := by simp [IntKind.wrap, IntKind.signed, IntKind.bits]; omega
  have hq0 : (0 : Int) ≤ (q : Int) := by omega
  have hqi : (q : Int) < 26 := by omega
  have hzq : z - 65 = q := hqz.symm
  clear hyy hxe hwb hy hz hch hF hu hv hx hqz hI hJ hB
  go_enter Tryd.func137, Tryd.ntmps137
  go_wp2_with fail
  refine start_ (n := 24) (S := fun w' => w'.cell? ⟨g2, q, none⟩ = some (.int .i16 u) ∧ w'.cell? ⟨g2, 26, none⟩ = some (.int .i16 v) ∧ w'.cell? ⟨g1, q, none⟩ = some (.int .i8 x) ∧ Below w.heap.size w w') (ds := []) #[false, false, false, false, false, false, false, false, false, false, false, false, false, false, false, false, false, false, false, false, false, false, false, false] (by kernel_rfl) rfl rfl ⟨(cellB1 k1 (below_drew (Below.refl _ _))), (cellB1 k2 (below_drew (Below.refl _ _))), (cellB1 k3 (below_drew (Below.refl _ _))), (below_drew (Below.refl _ _))⟩ (fun hHeld => ?_)
  refine pure_ (i := 0) (N := some 7) (v := ?_) (a' := ?_) #[true, false, false, false, false, false, false, false, false, false, false, false, false, false, false, false, false, false, false, false, false, false, false, false] rfl rfl (by kernel_rfl) (fun _ _ _ h => h) (Or.inl ⟨by rfl, ?_⟩) ?_ ?_
  rotate_left
  · intro w'
    go_simp
    with_reducible rfl
  rotate_left
  · simp only [Act.put, List.setIfInBounds_toArray, List.set_cons_zero, List.set_cons_succ, i64_w, i32_w]
    rfl
  refine pure_ (i := 1) (N := some 8) (v := ?_) (a' := ?_) #[true, true, false, false, false, false, false, false, false, false, false, false, false, false, false, false, false, false, false, false, false, false, false, false] rfl rfl (by kernel_rfl) (fun _ _ _ h => h) (Or.inl ⟨by rfl, ?_⟩) ?_ ?_
  rotate_left
  · intro w'
    go_simp
    with_reducible rfl
  rotate_left
  · simp only [Act.put, List.setIfInBounds_toArray, List.set_cons_zero, List.set_cons_succ, i64_w, i32_w]
    rfl
  refine pure_ (i := 2) (N := some 9) (v := ?_) (a' := ?_) #[true, true, true, false, false, false, false, false, false, false, false, false, false, false, false, false, false, false, false, false, false, false, false, false] rfl rfl (by kernel_rfl) (fun _ _ _ h => h) (Or.inl ⟨by rfl, ?_⟩) ?_ ?_
  rotate_left
  · intro w'
    go_simp
    with_reducible rfl
  rotate_left
  · simp only [Act.put, List.setIfInBounds_toArray, List.set_cons_zero, List.set_cons_succ, i64_w, i32_w]
    rfl
  refine pure_ (i := 3) (N := some 10) (v := ?_) (a' := ?_) #[true, true, true, true, false, false, false, false, false, false, false, false, false, false, false, false, false, false, false, false, false, false, false, false] rfl rfl (by kernel_rfl) (fun _ _ _ h => h) (Or.inl ⟨by rfl, ?_⟩) ?_ ?_
  rotate_left
  · intro w'
    go_simp
    with_reducible rfl
  rotate_left
  · simp only [Act.put, List.setIfInBounds_toArray, List.set_cons_zero, List.set_cons_succ, i64_w, i32_w]
    rfl
  refine pure_ (i := 4) (N := some 11) (v := ?_) (a' := ?_) #[true, true, true, true, true, false, false, false, false, false, false, false, false, false, false, false, false, false, false, false, false, false, false, false] rfl rfl (by kernel_rfl) (fun _ _ _ h => h) (Or.inl ⟨by rfl, ?_⟩) ?_ ?_
  rotate_left
  · intro w'
    go_simp
    with_reducible rfl
  rotate_left
  · simp only [Act.put, List.setIfInBounds_toArray, List.set_cons_zero, List.set_cons_succ, i64_w, i32_w]
    rfl
  refine pure_ (i := 5) (N := some 12) (v := ?_) (a' := ?_) #[true, true, true, true, true, true, false, false, false, false, false, false, false, false, false, false, false, false, false, false, false, false, false, false] rfl rfl (by kernel_rfl) (fun _ _ _ h => h) (Or.inl ⟨by rfl, ?_⟩) ?_ ?_
  rotate_left
  · intro w'
    go_simp
    with_reducible rfl
  rotate_left
  · simp only [Act.put, List.setIfInBounds_toArray, List.set_cons_zero, List.set_cons_succ, i64_w, i32_w]
    rfl
  refine pure_ (i := 8) (N := some 15) (v := ?_) (a' := ?_) #[true, true, true, true, true, true, false, false, true, false, false, false, false, false, false, false, false, false, false, false, false, false, false, false] rfl rfl (by kernel_rfl) (fun _ _ _ h => h) (Or.inl ⟨by rfl, ?_⟩) ?_ ?_
  rotate_left
  · intro w'
    go_simp
    with_reducible rfl
  rotate_left
  · simp only [Act.put, List.setIfInBounds_toArray, List.set_cons_zero, List.set_cons_succ, i64_w, i32_w]
    rfl
  refine pure_ (i := 9) (N := some 16) (v := ?_) (a' := ?_) #[true, true, true, true, true, true, false, false, true, true, false, false, false, false, false, false, false, false, false, false, false, false, false, false] rfl rfl (by kernel_rfl) (fun _ _ _ h => h) (Or.inl ⟨by rfl, ?_⟩) ?_ ?_
  rotate_left
  · intro w'
    go_simp
    with_reducible rfl
  rotate_left
  · simp only [Act.put, List.setIfInBounds_toArray, List.set_cons_zero, List.set_cons_succ, i64_w, i32_w]
    rfl
  refine pure_ (i := 10) (N := some 17) (v := ?_) (a' := ?_) #[true, true, true, true, true, true, false, false, true, true, true, false, false, false, false, false, false, false, false, false, false, false, false, false] rfl rfl (by kernel_rfl) (fun _ _ _ h => h) (Or.inl ⟨by rfl, ?_⟩) ?_ ?_
  rotate_left
  · intro w'
    go_simp
    with_reducible rfl
  rotate_left
  · simp only [Act.put, List.setIfInBounds_toArray, List.set_cons_zero, List.set_cons_succ, i64_w, i32_w]
    rfl
  refine pure_ (i := 13) (N := some 20) (v := ?_) (a' := ?_) #[true, true, true, true, true, true, false, false, true, true, true, false, false, true, false, false, false, false, false, false, false, false, false, false] rfl rfl (by kernel_rfl) (fun _ _ _ h => h) (Or.inl ⟨by rfl, ?_⟩) ?_ ?_
  rotate_left
  · intro w'
    go_simp
    with_reducible rfl
  rotate_left
  · simp only [Act.put, List.setIfInBounds_toArray, List.set_cons_zero, List.set_cons_succ, i64_w, i32_w]
    rfl
  refine pure_ (i := 14) (N := some 21) (v := ?_) (a' := ?_) #[true, true, true, true, true, true, false, false, true, true, true, false, false, true, true, false, false, false, false, false, false, false, false, false] rfl rfl (by kernel_rfl) (fun _ _ _ h => h) (Or.inl ⟨by rfl, ?_⟩) ?_ ?_
  rotate_left
  · intro w'
    go_simp
    with_reducible rfl
  rotate_left
  · simp only [Act.put, List.setIfInBounds_toArray, List.set_cons_zero, List.set_cons_succ, i64_w, i32_w]
    rfl
  refine pure_ (i := 15) (N := some 22) (v := ?_) (a' := ?_) #[true, true, true, true, true, true, false, false, true, true, true, false, false, true, true, true, false, false, false, false, false, false, false, false] rfl rfl (by kernel_rfl) (fun _ _ _ h => h) (Or.inl ⟨by rfl, ?_⟩) ?_ ?_
  rotate_left
  · intro w'
    go_simp
    with_reducible rfl
  rotate_left
  · simp only [Act.put, List.setIfInBounds_toArray, List.set_cons_zero, List.set_cons_succ, i64_w, i32_w]
    rfl
  refine pure_ (i := 16) (N := some 23) (v := ?_) (a' := ?_) #[true, true, true, true, true, true, false, false, true, true, true, false, false, true, true, true, true, false, false, false, false, false, false, false] rfl rfl (by kernel_rfl) (fun _ _ _ h => h) (Or.inl ⟨by rfl, ?_⟩) ?_ ?_
  rotate_left
  · intro w'
    go_simp
    with_reducible rfl
  rotate_left
  · simp only [Act.put, List.setIfInBounds_toArray, List.set_cons_zero, List.set_cons_succ, i64_w, i32_w]
    rfl
  refine pure_ (i := 17) (N := some 24) (v := ?_) (a' := ?_) #[true, true, true, true, true, true, false, false, true, true, true, false, false, true, true, true, true, true, false, false, false, false, false, false] rfl rfl (by kernel_rfl) (fun _ _ _ h => h) (Or.inl ⟨by rfl, ?_⟩) ?_ ?_
  rotate_left
  · intro w'
    go_simp
    with_reducible rfl
  rotate_left
  · simp only [Act.put, List.setIfInBounds_toArray, List.set_cons_zero, List.set_cons_succ, i64_w, i32_w]
    rfl
  refine pure_ (i := 18) (N := some 25) (v := ?_) (a' := ?_) #[true, true, true, true, true, true, false, false, true, true, true, false, false, true, true, true, true, true, true, false, false, false, false, false] rfl rfl (by kernel_rfl) (fun _ _ _ h => h) (Or.inl ⟨by rfl, ?_⟩) ?_ ?_
  rotate_left
  · intro w'
    go_simp
    with_reducible rfl
  rotate_left
  · simp only [Act.put, List.setIfInBounds_toArray, List.set_cons_zero, List.set_cons_succ, i64_w, i32_w]
    rfl
  refine take_ (i := 6) (N := some 13) (v := ?_) (a' := ?_) #[true, true, true, true, true, true, true, false, true, true, true, false, false, true, true, true, true, true, true, false, false, false, false, false] rfl rfl (by kernel_rfl) (fun _ _ _ h => h) (Or.inl ⟨by rfl, ?_⟩) hHeld ?_ ?_
  rotate_left
  · rintro w' ⟨s0, s1, s2, s3⟩
    go_simp
    with_reducible rfl
  rotate_left
  · simp only [Act.put, List.setIfInBounds_toArray, List.set_cons_zero, List.set_cons_succ, i64_w, i32_w]
    rfl
  refine pure_ (i := 7) (N := some 14) (v := ?_) (a' := ?_) #[true, true, true, true, true, true, true, true, true, true, true, false, false, true, true, true, true, true, true, false, false, false, false, false] rfl rfl (by kernel_rfl) (fun _ _ _ h => h) (Or.inl ⟨by rfl, ?_⟩) ?_ ?_
  rotate_left
  · intro w'
    go_simp
    with_reducible rfl
  rotate_left
  · simp only [Act.put, List.setIfInBounds_toArray, List.set_cons_zero, List.set_cons_succ, i64_w, i32_w]
    rfl
  refine take_ (i := 11) (N := some 18) (v := ?_) (a' := ?_) #[true, true, true, true, true, true, true, true, true, true, true, true, false, true, true, true, true, true, true, false, false, false, false, false] rfl rfl (by kernel_rfl) (fun _ _ _ h => h) (Or.inl ⟨by rfl, ?_⟩) hHeld ?_ ?_
  rotate_left
  · rintro w' ⟨s0, s1, s2, s3⟩
    go_simp
    with_reducible rfl
  rotate_left
  · simp only [Act.put, List.setIfInBounds_toArray, List.set_cons_zero, List.set_cons_succ, i64_w, i32_w]
    rfl
  refine pure_ (i := 12) (N := some 19) (v := ?_) (a' := ?_) #[true, true, true, true, true, true, true, true, true, true, true, true, true, true, true, true, true, true, true, false, false, false, false, false] rfl rfl (by kernel_rfl) (fun _ _ _ h => h) (Or.inl ⟨by rfl, ?_⟩) ?_ ?_
  rotate_left
  · intro w'
    go_simp
    with_reducible rfl
  rotate_left
  · simp only [Act.put, List.setIfInBounds_toArray, List.set_cons_zero, List.set_cons_succ, i64_w, i32_w]
    rfl
  refine take_ (i := 19) (N := some 26) (v := ?_) (a' := ?_) #[true, true, true, true, true, true, true, true, true, true, true, true, true, true, true, true, true, true, true, true, false, false, false, false] rfl rfl (by kernel_rfl) (fun _ _ _ h => h) (Or.inl ⟨by rfl, ?_⟩) hHeld ?_ ?_
  rotate_left
  · rintro w' ⟨s0, s1, s2, s3⟩
    go_simp
    with_reducible rfl
  rotate_left
  · simp only [Act.put, List.setIfInBounds_toArray, List.set_cons_zero, List.set_cons_succ, i64_w, i32_w]
    rfl
  refine pure_ (i := 20) (N := some 27) (v := ?_) (a' := ?_) #[true, true, true, true, true, true, true, true, true, true, true, true, true, true, true, true, true, true, true, true, true, false, false, false] rfl rfl (by kernel_rfl) (fun _ _ _ h => h) (Or.inl ⟨by rfl, ?_⟩) ?_ ?_
  rotate_left
  · intro w'
    go_simp
    with_reducible rfl
  rotate_left
  · simp only [Act.put, List.setIfInBounds_toArray, List.set_cons_zero, List.set_cons_succ, i64_w, i32_w]
    rfl
  refine pure_ (i := 21) (N := some 28) (v := ?_) (a' := ?_) #[true, true, true, true, true, true, true, true, true, true, true, true, true, true, true, true, true, true, true, true, true, true, false, false] rfl rfl (by kernel_rfl) (fun _ _ _ h => h) (Or.inl ⟨by rfl, ?_⟩) ?_ ?_
  rotate_left
  · intro w'
    go_simp
    with_reducible rfl
  rotate_left
  · simp only [Act.put, List.setIfInBounds_toArray, List.set_cons_zero, List.set_cons_succ, i64_w, i32_w]
    rfl
  refine pure_ (i := 22) (N := some 29) (v := ?_) (a' := ?_) #[true, true, true, true, true, true, true, true, true, true, true, true, true, true, true, true, true, true, true, true, true, true, true, false] rfl rfl (by kernel_rfl) (fun _ _ _ h => h) (Or.inl ⟨by rfl, ?_⟩) ?_ ?_
  rotate_left
  · intro w'
    go_simp
    with_reducible rfl
  rotate_left
  · simp only [Act.put, List.setIfInBounds_toArray, List.set_cons_zero, List.set_cons_succ, i64_w, i32_w]
    rfl
  refine pure_ (i := 23) (N := some 6) (v := ?_) (a' := ?_) #[true, true, true, true, true, true, true, true, true, true, true, true, true, true, true, true, true, true, true, true, true, true, true, true] rfl rfl (by kernel_rfl) (fun _ _ _ h => h) (Or.inl ⟨by rfl, ?_⟩) ?_ ?_
  rotate_left
  · intro w'
    go_simp
    with_reducible rfl
  rotate_left
  · simp only [Act.put, List.setIfInBounds_toArray, List.set_cons_zero, List.set_cons_succ, i64_w, i32_w]
    rfl
  refine done_ (by kernel_rfl) ?_
  go_wp2_with fail
  go_ret
  exact ⟨rfl, hHeld.2.2.2⟩
theorem l06Letters_l0 (s : ByteArray) (hs : s.size ≤ 1048576) : ∀ (d k i : Nat) (acc : List UInt8), i + d = s.size → d < k → acc.length ≤ i →
    spec_l06Letters.l0 k s (acc.map fun b => ((b.toNat : Nat) : Int)) i = some ((acc ++ lets (s.data.toList.drop i)).map fun b => ((b.toNat : Nat) : Int))
  | 0, k, i, acc, hd, hk, ha => by
    obtain ⟨k, rfl⟩ := some_k hk
    rw [spec_l06Letters.l0, if_neg (by omega), List.drop_eq_nil_of_le (by rw [data_length]; omega)]
    simp [lets]
  | d + 1, k, i, acc, hd, hk, ha => by
    obtain ⟨k, rfl⟩ := some_k hk
    have hlen : s.data.toList.length = s.size := data_length s
    have hin : i < s.data.toList.length := by omega
    have hdr : lets (s.data.toList.drop i) = (if s.data.toList.getD i 0 = 32 then [] else [s.data.toList.getD i 0]) ++ lets (s.data.toList.drop (i + 1)) := by
      have e : s.data.toList.getD i 0 = s.data.toList[i] := by rw [List.getD_eq_getElem?_getD, List.getElem?_eq_getElem hin]; rfl
      rw [List.drop_eq_getElem_cons hin, e]
      unfold lets
      by_cases hx : s.data.toList[i] = 32
      · rw [if_pos hx, List.filter_cons_of_neg (by simpa using hx)]; rfl
      · rw [if_neg hx, List.filter_cons_of_pos (by simpa using hx)]; rfl
    rw [spec_l06Letters.l0, if_pos (by omega), if_pos (by omega), bt_get s i hin, wrap_succ i (by omega), hdr]
    by_cases h : s.data.toList.getD i 0 = 32
    · rw [if_pos ((is32 _).2 h), l06Letters_l0 s hs d k (i + 1) acc (by omega) (by omega) (by omega), if_pos h]
      rfl
    · have := l06Letters_l0 s hs d k (i + 1) (acc ++ [s.data.toList.getD i 0]) (by omega) (by omega) (by rw [List.length_append, List.length_singleton]; omega)
      rw [List.map_append] at this
      rw [if_neg (fun hh => h ((is32 _).1 hh)), if_pos (by rw [List.length_map]; omega)]
      refine this.trans ?_
      rw [if_neg h, List.append_assoc]
theorem l06Letters_eq (s : ByteArray) (hs : s.size ≤ 1048576) {k : Nat} (hk : s.size < k) : spec_l06Letters.f k s = some ((lets s.data.toList).map fun b => ((b.toNat : Nat) : Int)) := by
  have h := l06Letters_l0 s hs s.size k 0 [] (by omega) hk (by simp)
  unfold spec_l06Letters.f
  exact h
set_option maxHeartbeats 1000000 in
theorem l06Price_calls (L : List Int) (hl : L.length = 28) (P : List Pr) (hF : FaceOk L P) (Q : List Int) (hq : Q.length = 29) (s : ByteArray) (hs : s.size ≤ 60) (ht : okTxt s.data.toList) (g1 g2 : Nat) (w0 w : World) (hI : FaceAt w0 w g1 L P) (hJ : PricesAt w g2 Q) :
    Calls Tryd.prog 97 #[.pointer (some ⟨g1, 0, none⟩), .pointer (some ⟨g2, 0, none⟩), .string s] w fun e w' => e = .returned (.int .i64 (priceT L Q s.data.toList)) ∧ Below w.heap.size w w' := by
  have hlt' := l06Letters_eq s (by omega) (k := 100) (by omega)
  obtain ⟨t, hT⟩ : ∃ t, t = lets s.data.toList := ⟨_, rfl⟩
  have hall : ∀ x ∈ t, 65 ≤ x.toNat ∧ x.toNat ≤ 90 := by
    intro x hx
    rw [hT] at hx
    unfold lets at hx
    rw [List.mem_filter] at hx
    exact (ht x hx.1).resolve_left (by simpa using hx.2)
  have h60 : t.length ≤ 60 := by
    have h1 : (lets s.data.toList).length ≤ s.data.toList.length := List.length_filter_le _ _
    rw [data_length] at h1
    rw [hT]; omega
  obtain ⟨b0, hb0⟩ : ∃ b0, rd Q (27 : Nat) = b0 := ⟨_, rfl⟩
  have hpl : priceT L Q s.data.toList = costL L Q (wrap64 b0) t := by rw [hT, ← hb0]; rfl
  obtain ⟨r, hr⟩ : ∃ r : List Int, r = t.map fun b => ((b.toNat : Nat) : Int) := ⟨_, rfl⟩
  rw [← hT, ← hr] at hlt'
  rw [hpl]
  have hrl : r.length = t.length := by rw [hr, List.length_map]
  have c27 := cellAt (k := .i16) hJ (n := 27) (by omega) hb0
  have HT := Aside0.mk hall
  have HLt := Aside0.mk hlt'
  have HF := Aside0.mk hF
  have HI := Aside0.mk hI
  have HJ := Aside0.mk hJ
  have H60 := Aside0.mk h60
  have HR := Aside0.mk hr
  have HRl := Aside0.mk hrl
  clear hlt' hT hall h60 hb0 hpl hr hrl hF hI hJ hs ht
  go_enter Tryd.func97, Tryd.ntmps97
  go_wp2_with fail
  refine (spec_l06Letters.calls 100 s r _ HLt.out).mono ?_
  rintro e w1 ⟨v1, rfl, ho1, hb1⟩
  obtain ⟨A2, c2, rfl, hc2, hC2⟩ := Kd.R_reads ho1
  have HI1 := Aside0.mk (HI.out.below hb1)
  have HJ1 : Aside0 (PricesAt w1 g2 Q) := ⟨blk_below HJ.out hb1⟩
  have HB1 := Aside0.mk hb1
  have HC2 := Aside0.mk hC2
  clear ho1 hb1 c27 hC2 HI HJ
  go_wp2_with fail
  go_loopw [7, 9] (fun v i wr => ∃ n : Nat, n ≤ t.length ∧ i = .int .i64 n ∧ v = .int .i64 (costL L Q (wrap64 b0) (t.take n)) ∧ Aside0 (Below w1.heap.size w1 wr)) (fun v i _ => t.length - (intOf i).toNat)
  case atStart => exact ⟨0, by omega, rfl, rfl, ⟨Below.refl _ _⟩⟩
  case round =>
    obtain ⟨n, hn, rfl, rfl, HBW⟩ := hrel
    have h60 := H60.out
    have hrl := HRl.out
    by_cases hlt : n < t.length
    · have hltz : (n : Int) < (r.length : Int) := by omega
      obtain ⟨ch, hcx⟩ : ∃ ch, ch = t.getD n 0 := ⟨_, rfl⟩
      have hget : t[n] = ch := by rw [hcx, List.getD_eq_getElem?_getD, List.getElem?_eq_getElem hlt]; rfl
      have hch : 65 ≤ ch.toNat ∧ ch.toNat ≤ 90 := by rw [← hget]; exact HT.out _ (List.getElem_mem hlt)
      obtain ⟨ad, ea, hc⟩ := Kd.at_int (Kd.C_below HC2.out HBW.out) (n : Int) (by omega) (by omega)
      subst ea
      rw [Int.toNat_natCast] at hc
      have hzr : rd r (n : Int) = (ch.toNat : Int) := by rw [rd_get r n (by omega)]; simp only [HR.out, List.getElem_map]; rw [hget]
      rw [hzr] at hc
      obtain ⟨z, hzc⟩ : ∃ z : Int, z = (ch.toNat : Int) := ⟨_, rfl⟩
      rw [← hzc] at hc
      obtain ⟨y, hy⟩ : ∃ y, y = pB L Q ch := ⟨_, rfl⟩
      have hx : costL L Q (wrap64 b0) (t.take (n + 1)) = wrap64 (costL L Q (wrap64 b0) (t.take n) + y) := by
        rw [List.take_succ_eq_append_getElem hlt, costL_snoc, hget, hy]
      obtain ⟨x, hxs⟩ : ∃ x, x = costL L Q (wrap64 b0) (t.take n) := ⟨_, rfl⟩
      rw [← hxs] at hx
      rw [← hxs]
      have hn0 : (0 : Int) ≤ (n : Int) := by omega
      have HX := Aside0.mk hx
      have HZ := Aside0.mk hzc
      have HCh := Aside0.mk hch
      have HY := Aside0.mk hy
      clear hx hxs hcx hzc hch hy hget hzr hrl
      go_wp2_with fail
      refine (l06Letter_calls L hl P HF.out Q hq z y ch HZ.out HCh.out HY.out g1 g2 w0 _ (HI1.out.below HBW.out) (blk_below HJ1.out HBW.out)).mono ?_
      rintro e w6 ⟨rfl, hb⟩
      replace HBW := Aside0.mk (below_step HBW.out hb)
      clear hb hc
      go_wp2_with (fail)
      go_roundw
      case rel => exact ⟨n + 1, by omega, by go_num, by rw [HX.out], HBW⟩
      case measure => simp [intOf]; omega
    · have hltz : ¬ (n : Int) < (r.length : Int) := by omega
      obtain rfl : n = t.length := by omega
      clear hrl
      go_wp2
      go_ret
      refine ⟨?_, HB1.out.trans (HBW.out.mono (below_size HB1.out))⟩
      show Ending.returned (.int .i64 (costL L Q (wrap64 b0) t)) = _
      rfl
def askP (L : List Int) (P : List Pr) (Q : List Int) (s : ByteArray) : Bool := faceB L P && (pricesB Q && txt s.data.toList)
theorem askP_iff {L : List Int} {P : List Pr} {Q : List Int} {s : ByteArray} (h : askP L P Q s = true) : faceB L P = true ∧ pricesB Q = true ∧ txt s.data.toList = true := by
  unfold askP at h
  simpa [Bool.and_eq_true] using h
end Go.Proofs.YticjkfacdmmopaaDoor.Ext
namespace Go.Proofs.YticjkfacdmmopaaDoor.Q
open Go.Proofs.YticjkfacdmmopaaDoor.Ext
open Go.RowKit Go.Proofs.YticjkfacdmmopaaDoorW.PrintWords Go.Proofs.YticjkfacdmmopaaDoorW.PrintLast Go.Proofs.YticjkfacdmmopaaDoorW.PrintMore
attribute [local go_sem] max2_int min2_int max_two min_two max_three min_three max_four min_four
set_option linter.unusedVariables false
set_option linter.unusedSimpArgs false
end Go.Proofs.YticjkfacdmmopaaDoor.Q
namespace Go.Proofs.YticjkfacdmmopaaDoor.Ext
end Go.Proofs.YticjkfacdmmopaaDoor.Ext
namespace Go.Proofs.YticjkfacdmmopaaDoor.Q
open Go.Proofs.YticjkfacdmmopaaDoor.Ext
open Go.RowKit Go.Proofs.YticjkfacdmmopaaDoorW.PrintWords Go.Proofs.YticjkfacdmmopaaDoorW.PrintLast Go.Proofs.YticjkfacdmmopaaDoorW.PrintMore
attribute [local go_sem] max2_int min2_int max_two min_two max_three min_three max_four min_four
set_option linter.unusedVariables false
set_option linter.unusedSimpArgs false
end Go.Proofs.YticjkfacdmmopaaDoor.Q
namespace Go.Proofs.YticjkfacdmmopaaDoor.Ext
end Go.Proofs.YticjkfacdmmopaaDoor.Ext
namespace Go.Proofs.YticjkfacdmmopaaDoor.Q
open Go.Proofs.YticjkfacdmmopaaDoor.Ext
open Go.RowKit Go.Proofs.YticjkfacdmmopaaDoorW.PrintWords Go.Proofs.YticjkfacdmmopaaDoorW.PrintLast Go.Proofs.YticjkfacdmmopaaDoorW.PrintMore
attribute [local go_sem] max2_int min2_int max_two min_two max_three min_three max_four min_four
set_option linter.unusedVariables false
set_option linter.unusedSimpArgs false
def laws_szStringS.l0 : Nat → List ByteArray → Int → Int → Option (Int)
  | 0, _, _, _ => none
  | k + 1, x0, x1, x5 => if x5 < (x0.length : Int) then (if 0 ≤ x5 then (if (wrap64 (x1 - ((rdOf ByteArray.empty x0 x5).size : Int))) < 0 then (some (-1)) else (laws_szStringS.l0 k x0 (wrap64 (x1 - ((rdOf ByteArray.empty x0 x5).size : Int))) (wrap64 (x5 + 1)))) else (none)) else (some x1)
def laws_szStringS.f (k : Nat) (l0 : List ByteArray) (a1 : Int) : Option (Int) := if (wrap64 (a1 - (l0.length : Int))) < 0 then (some (-1)) else (laws_szStringS.l0 k l0 (wrap64 (a1 - (l0.length : Int))) 0)
theorem laws_szStringS.mono_l : ∀ k, (∀ y0 y1 y2, LeO (laws_szStringS.l0 k y0 y1 y2) (laws_szStringS.l0 (k + 1) y0 y1 y2))
  | 0 => fun _ _ _ r h => by simp [laws_szStringS.l0] at h
  | k + 1 => by
    have ih0 := laws_szStringS.mono_l k
    · intro y0 y1 y2
      unfold laws_szStringS.l0
      repeat' first
      | (with_reducible exact ih0 _ _ _)
      | (with_reducible exact LeO.refl _)
      | (with_reducible exact LeO.none _)
      | (with_reducible refine LeO.ite ?_ ?_)
      | (with_reducible refine LeO.bind ?_ (fun _ => ?_))
      | exact ih0 _ _ _
      | exact LeO.none _
      | refine LeO.ite ?_ ?_
      | refine LeO.bind ?_ (fun _ => ?_)
theorem laws_szStringS.mono : ∀ a0 a1 k, LeO (laws_szStringS.f k a0 a1) (laws_szStringS.f (k + 1) a0 a1) := by
  intro a0 a1 k
  have ih0 := laws_szStringS.mono_l k
  unfold laws_szStringS.f
  repeat' first
      | (with_reducible exact ih0 _ _ _)
      | (with_reducible exact LeO.refl _)
      | (with_reducible exact LeO.none _)
      | (with_reducible refine LeO.ite ?_ ?_)
      | (with_reducible refine LeO.bind ?_ (fun _ => ?_))
      | exact ih0 _ _ _
      | exact LeO.none _
      | refine LeO.ite ?_ ?_
      | refine LeO.bind ?_ (fun _ => ?_)
set_option maxHeartbeats 8000000 in
set_option maxRecDepth 100000 in
theorem laws_szStringS.calls (k : Nat) (A0 : Option Addr) (c0 : Nat) (l0 : List ByteArray) (a1 : Int) (r : Int) (w : World) (hr0 : Kd.C Kd.string w A0 l0.length l0) (hc0 : l0.length ≤ c0) (h : laws_szStringS.f k l0 a1 = some r) :
    Calls Tryd.prog 39 #[.slice A0 l0.length c0, .int .i64 a1] w fun e w' => e = .returned (.int .i64 r) ∧ Drawn0 w w' := by
  have HR0 := Aside0.mk hr0
  have HC0 := Aside0.mk hc0
  clear hr0 hc0
  have H : (if (wrap64 (a1 - (l0.length : Int))) < 0 then (some (-1)) else (laws_szStringS.l0 k l0 (wrap64 (a1 - (l0.length : Int))) 0)) = some r := h
  clear h
  by_cases c3 : (wrap64 (a1 - (l0.length : Int))) < 0
  · rw [if_pos c3] at H
    have c3b0 : decide ((wrap64 (a1 - (l0.length : Int))) < 0) = true := decide_eq_true c3
    clear c3
    obtain rfl := Option.some.inj H
    go_enter Tryd.func39, Tryd.ntmps39
    go_wp2
    go_ret
    exact ⟨by first | rfl | (simp; done) | (simp [*]; done), by repeat (first | exact Drawn0.refl _ | apply Drawn0.step)⟩
  · rw [if_neg c3] at H
    have c3b0 : decide ((wrap64 (a1 - (l0.length : Int))) < 0) = false := decide_eq_false c3
    clear c3
    have H' := Aside0.mk H
    clear H
    go_enter Tryd.func39, Tryd.ntmps39
    go_wp2
    go_loopg [1, 5] k (fun kq v1 v5 w' => ∃ (x1_1 : Int) (x5_1 : Int), v1 = .int .i64 x1_1 ∧ v5 = .int .i64 x5_1 ∧ Aside0 (laws_szStringS.l0 kq l0 x1_1 x5_1 = some r) ∧ Aside0 (kq ≤ k) ∧ Drawn0 w w')
    case atStart => exact ⟨(wrap64 (a1 - (l0.length : Int))), (0), (by first | rfl | (simp; done) | (simp [*]; done)), (by first | rfl | (simp; done) | (simp [*]; done)), H', ⟨Nat.le_refl _⟩, by repeat (first | exact Drawn0.refl _ | apply Drawn0.step)⟩
    case round =>
      clear H'
      try clear p2
      try clear c3
      try clear c3b0
      obtain ⟨x1_1, x5_1, rfl, rfl, HA, HK1, ⟨m1, rfl⟩⟩ := hrel
      cases gk with
      | zero => exact absurd HA.out (by simp [laws_szStringS.l0])
      | succ k1 =>
        have H := HA.out
        clear HA
        simp only [laws_szStringS.l0] at H
        by_cases c4 : x5_1 < (l0.length : Int)
        · rw [if_pos c4] at H
          have c4b0 : decide (x5_1 < (l0.length : Int)) = true := decide_eq_true c4
          clear c4
          by_cases c5 : 0 ≤ x5_1
          · rw [if_pos c5] at H
            have c5b0 : decide (0 ≤ x5_1) = true := decide_eq_true c5
            clear c5
            by_cases c6 : (wrap64 (x1_1 - ((rdOf ByteArray.empty l0 x5_1).size : Int))) < 0
            · rw [if_pos c6] at H
              have c6b0 : decide ((wrap64 (x1_1 - ((rdOf ByteArray.empty l0 x5_1).size : Int))) < 0) = true := decide_eq_true c6
              clear c6
              obtain rfl := Option.some.inj H
              have p1208 : 0 ≤ (x5_1 : Int) := of_decide_eq_true (by first | (with_reducible assumption) | assumption)
              have q1208 : x5_1 < (l0.length : Int) := of_decide_eq_true (by first | (with_reducible assumption) | assumption)
              obtain ⟨ad1208, e1208, hx1208_0⟩ := Kd.at_string HR0.out x5_1 p1208 q1208
              cases e1208
              replace p1208 := eq_true p1208
              replace q1208 := eq_true q1208
              go_wp2
              go_ret
              exact ⟨by first | rfl | (simp; done) | (simp [*]; done), by repeat (first | exact Drawn0.refl _ | apply Drawn0.step)⟩
            · rw [if_neg c6] at H
              have c6b0 : decide ((wrap64 (x1_1 - ((rdOf ByteArray.empty l0 x5_1).size : Int))) < 0) = false := decide_eq_false c6
              clear c6
              have H' := Aside0.mk H
              clear H
              have p1208 : 0 ≤ (x5_1 : Int) := of_decide_eq_true (by first | (with_reducible assumption) | assumption)
              have q1208 : x5_1 < (l0.length : Int) := of_decide_eq_true (by first | (with_reducible assumption) | assumption)
              obtain ⟨ad1208, e1208, hx1208_0⟩ := Kd.at_string HR0.out x5_1 p1208 q1208
              cases e1208
              replace p1208 := eq_true p1208
              replace q1208 := eq_true q1208
              go_wp2
              go_roundg k1
              case measure => have := HK1.out; omega
              case rel => exact ⟨(wrap64 (x1_1 - ((rdOf ByteArray.empty l0 x5_1).size : Int))), (wrap64 (x5_1 + 1)), (by first | rfl | (simp; done) | (simp [*]; done)), (by first | rfl | (simp; done) | (simp [*]; done)), H', ⟨by have := HK1.out; omega⟩, by repeat (first | exact Drawn0.refl _ | apply Drawn0.step)⟩
          · rw [if_neg c5] at H
            exact absurd H (by simp)
        · rw [if_neg c4] at H
          have c4b0 : decide (x5_1 < (l0.length : Int)) = false := decide_eq_false c4
          clear c4
          obtain rfl := Option.some.inj H
          go_wp2
          go_ret
          exact ⟨by first | rfl | (simp; done) | (simp [*]; done), by repeat (first | exact Drawn0.refl _ | apply Drawn0.step)⟩
def laws_toStringS.l0 : Nat → List ByteArray → List ByteArray → Int → Option (List ByteArray)
  | 0, _, _, _ => none
  | k + 1, x0, x3, x4 => if x4 < (x0.length : Int) then (if 0 ≤ x4 then (if x4 < (x3.length : Int) then (laws_toStringS.l0 k x0 (x3.set (x4 : Int).toNat (rdOf ByteArray.empty x0 x4)) (wrap64 (x4 + 1))) else (none)) else (none)) else (some x3)
def laws_toStringS.f (k : Nat) (l0 : List ByteArray) : Option (List ByteArray) := if 0 ≤ (l0.length : Int) then (if ((l0.length : Int) : Int).toNat ≤ 17592186044416 then (laws_toStringS.l0 k l0 (List.replicate ((l0.length : Int) : Int).toNat (⟨#[]⟩ : ByteArray)) 0) else (none)) else (none)
theorem laws_toStringS.mono_l : ∀ k, (∀ y0 y1 y2, LeO (laws_toStringS.l0 k y0 y1 y2) (laws_toStringS.l0 (k + 1) y0 y1 y2))
  | 0 => fun _ _ _ r h => by simp [laws_toStringS.l0] at h
  | k + 1 => by
    have ih0 := laws_toStringS.mono_l k
    · intro y0 y1 y2
      unfold laws_toStringS.l0
      repeat' first
      | (with_reducible exact ih0 _ _ _)
      | (with_reducible exact LeO.refl _)
      | (with_reducible exact LeO.none _)
      | (with_reducible refine LeO.ite ?_ ?_)
      | (with_reducible refine LeO.bind ?_ (fun _ => ?_))
      | exact ih0 _ _ _
      | exact LeO.none _
      | refine LeO.ite ?_ ?_
      | refine LeO.bind ?_ (fun _ => ?_)
theorem laws_toStringS.mono : ∀ a0 k, LeO (laws_toStringS.f k a0) (laws_toStringS.f (k + 1) a0) := by
  intro a0 k
  have ih0 := laws_toStringS.mono_l k
  unfold laws_toStringS.f
  repeat' first
      | (with_reducible exact ih0 _ _ _)
      | (with_reducible exact LeO.refl _)
      | (with_reducible exact LeO.none _)
      | (with_reducible refine LeO.ite ?_ ?_)
      | (with_reducible refine LeO.bind ?_ (fun _ => ?_))
      | exact ih0 _ _ _
      | exact LeO.none _
      | refine LeO.ite ?_ ?_
      | refine LeO.bind ?_ (fun _ => ?_)
set_option maxHeartbeats 8000000 in
set_option maxRecDepth 100000 in
theorem laws_toStringS.calls (k : Nat) (A0 : Option Addr) (c0 : Nat) (l0 : List ByteArray) (r : List ByteArray) (w : World) (hr0 : Kd.C Kd.string w A0 l0.length l0) (hc0 : l0.length ≤ c0) (h : laws_toStringS.f k l0 = some r) :
    Calls Tryd.prog 41 #[.slice A0 l0.length c0] w fun e w' => ∃ v0_ : Value, e = .returned (v0_) ∧ Kd.R Kd.string 9 w' w.heap.size (fun _ => True) v0_ r ∧ Below w.heap.size w w' := by
  have HR0 := Aside0.mk hr0
  have HC0 := Aside0.mk hc0
  clear hr0 hc0
  have HB := Aside0.mk (Below.refl w.heap.size w)
  have H : (if 0 ≤ (l0.length : Int) then (if ((l0.length : Int) : Int).toNat ≤ 17592186044416 then (laws_toStringS.l0 k l0 (List.replicate ((l0.length : Int) : Int).toNat (⟨#[]⟩ : ByteArray)) 0) else (none)) else (none)) = some r := h
  clear h
  by_cases c2 : 0 ≤ (l0.length : Int)
  · rw [if_pos c2] at H
    have c2b0 := eq_true c2
    have c2b1 : decide (0 ≤ (l0.length : Int)) = true := decide_eq_true c2
    clear c2
    by_cases c3 : ((l0.length : Int) : Int).toNat ≤ 17592186044416
    · rw [if_pos c3] at H
      have c3b0 := eq_true c3
      have c3b1 : decide (((l0.length : Int) : Int).toNat ≤ 17592186044416) = true := decide_eq_true c3
      clear c3
      obtain ⟨y1213, hy1213⟩ : ∃ y_ : List ByteArray, y_ = (List.replicate ((l0.length : Int) : Int).toNat (⟨#[]⟩ : ByteArray)) := ⟨_, rfl⟩
      replace H : (laws_toStringS.l0 k l0 y1213 0) = some r := by first | (rw [hy1213]; with_reducible exact H) | (have H2_ := (Option.bind_some _ _).symm.trans H; rw [hy1213]; with_reducible exact H2_) | (have H2_ := (Option.bind_some _ _).symm.trans H; with_reducible exact H2_) | with_reducible exact H | (rw [hy1213]; exact H) | exact H
      have Ny1213 := Aside0.mk hy1213
      clear hy1213
      have H' := Aside0.mk H
      clear H
      go_enter Tryd.func41, Tryd.ntmps41
      go_wp2_with (first | ((with_reducible refine gate_dst (N := 7) rfl ?_); refine Kd.R_make Kd.string _ 9 rfl (N := 7) rfl 48 _ _ rfl (l0.length : Int) rfl rfl Tryd.underlying48 (.string ⟨#[]⟩) 16 info9 rfl (by decide) (by omega) (⟨#[]⟩ : ByteArray) (ok := fun _ => True) (okp := fun _ => True) rfl (fun _ hk => hk) trivial (of_decide_eq_true (by first | (with_reducible assumption) | assumption)) (Nat.le_trans (Nat.mul_le_mul_right _ (of_decide_eq_true (by first | (with_reducible assumption) | assumption) : (l0.length : Int).toNat ≤ 17592186044416)) (by omega)) (Below.refl _ _) (Nat.le_refl _) ?_; intro v1214 w4 ho5 hb hg_ hnew_; clear hg_ hnew_; (first | rw [← Ny1213.out] at ho5 | (simp only [Int.reduceToNat] at ho5; rw [← Ny1213.out] at ho5)); have n0_ := Aside0.mk (Kd.R_lower ho5 (below_size (by repeat (first | (with_reducible first | exact HB.out | apply below_alloc | apply pw_below_drewN | apply below_drew1) | exact HB.out)))); have n1_ := Aside0.mk (below_step (by repeat (first | (with_reducible first | exact HB.out | apply below_alloc | apply pw_below_drewN | apply below_drew1) | exact HB.out)) hb); clear HB; have HO1215 := n0_; have HB := n1_; clear n0_ n1_; clear hb ho5))
      go_loopg [4] k (fun kq v4 w' => ∃ (x3_1 : List ByteArray) (x4_1 : Int), v4 = .int .i64 x4_1 ∧ Aside0 (laws_toStringS.l0 kq l0 x3_1 x4_1 = some r) ∧ Aside0 (kq ≤ k) ∧ Aside0 (Kd.R Kd.string 9 w' w.heap.size (fun _ => True) v1214 x3_1) ∧ Aside0 (Below w.heap.size w w'))
      case atStart => exact ⟨(y1213), (0), (by first | rfl | (simp; done) | (simp [*]; done)), H', ⟨Nat.le_refl _⟩, ⟨by (with_reducible repeat (first | apply Kd.R_alloc | apply Kd.R_drewN | apply Kd.R_drew)); exact HO1215.out⟩, ⟨by repeat (first | (with_reducible first | exact HB.out | apply below_alloc | apply pw_below_drewN | apply below_drew1) | exact HB.out)⟩⟩
      case round =>
        clear H'
        try clear c2
        try clear c2b0
        try clear c2b1
        try clear p2
        try clear c3
        try clear c3b0
        try clear c3b1
        try clear c4
        obtain ⟨x3_1, x4_1, rfl, HA, HK1, HO_3, HB⟩ := hrel
        cases gk with
        | zero => exact absurd HA.out (by simp [laws_toStringS.l0])
        | succ k1 =>
          have H := HA.out
          clear HA
          simp only [laws_toStringS.l0] at H
          by_cases c6 : x4_1 < (l0.length : Int)
          · rw [if_pos c6] at H
            have c6b0 : decide (x4_1 < (l0.length : Int)) = true := decide_eq_true c6
            clear c6
            by_cases c7 : 0 ≤ x4_1
            · rw [if_pos c7] at H
              have c7b0 : decide (0 ≤ x4_1) = true := decide_eq_true c7
              clear c7
              by_cases c8 : x4_1 < (x3_1.length : Int)
              · rw [if_pos c8] at H
                have c8b0 : decide (x4_1 < (x3_1.length : Int)) = true := decide_eq_true c8
                clear c8
                obtain ⟨y1217, hy1217⟩ : ∃ y_ : List ByteArray, y_ = (x3_1.set (x4_1 : Int).toNat (rdOf ByteArray.empty l0 x4_1)) := ⟨_, rfl⟩
                replace H : (laws_toStringS.l0 k1 l0 y1217 (wrap64 (x4_1 + 1))) = some r := by first | (rw [hy1217]; with_reducible exact H) | (have H2_ := (Option.bind_some _ _).symm.trans H; rw [hy1217]; with_reducible exact H2_) | (have H2_ := (Option.bind_some _ _).symm.trans H; with_reducible exact H2_) | with_reducible exact H | (rw [hy1217]; exact H) | exact H
                have Ny1217 := Aside0.mk hy1217
                clear hy1217
                have H' := Aside0.mk H
                clear H
                have p1216 : 0 ≤ (x4_1 : Int) := of_decide_eq_true (by first | (with_reducible assumption) | assumption)
                have q1216 : x4_1 < (l0.length : Int) := of_decide_eq_true (by first | (with_reducible assumption) | assumption)
                obtain ⟨ad1216, e1216, hx1216_0⟩ := Kd.at_string HR0.out x4_1 p1216 q1216
                cases e1216
                replace hx1216_0 := (HB.out.cell (World.block_lt_of_cell? w _ hx1216_0)).trans hx1216_0
                replace p1216 := eq_true p1216
                replace q1216 := eq_true q1216
                have p9 : 0 ≤ (x4_1 : Int) := of_decide_eq_true (by first | (with_reducible assumption) | assumption)
                have q9 : (x4_1 : Int) < ((x3_1.length : Int) : Int) := of_decide_eq_true (by first | (with_reducible assumption) | assumption)
                obtain ⟨go9, co9, eo9, gb9, gl9, cl9, HG9⟩ := Kd.R_form HO_3.out (by omega)
                (first | cases eo9 | (injection eo9 with ea_ en_ ec_; (first | subst ea_ | (injection ea_ with ea_; subst ea_)); subst ec_; clear en_))
                have GB9 := Aside0.mk gb9
                have GG9 := Aside0.mk HG9
                clear gb9 gl9 HG9
                obtain ⟨hx9_0, hf9_0⟩ := Kd.R_celln (⟨#[]⟩ : ByteArray) HO_3.out (x4_1 : Int) p9 q9
                replace p9 := eq_true p9
                replace q9 := eq_true q9
                have HP10 := Kd.R_putg HO_3.out (x4_1 : Int) (rdOf ByteArray.empty l0 x4_1)
                go_wp2_with (first | ((with_reducible refine gate_store (t := 9) (p := 20) rfl ?_); refine store_event (t := 9) (p := 20) (v := ?vo_w11) (w1 := (wr.setCell ⟨go9, (x4_1 : Int).toNat, none⟩ (.string (rdOf ByteArray.empty l0 x4_1)))) ?hg ?ho ?hn ?hr ?_; (case ho => rfl); (case hg => rfl); (case hn => rfl); (case hr => first | (go_simp; done) | (go_simp; rfl)); intro w11 hw; have hg : wr.grownBy w11 (some go9) := (by rw [hw]; exact HP10.2); have hp_ : Kd.R Kd.string 9 w11 w.heap.size (fun _ => True) (.slice (some ⟨go9, 0, none⟩) x3_1.length co9) y1217 := (by rw [hw, Ny1217.out]; exact HP10.1); clear HP10; have n0_ := Aside0.mk (hp_); have n1_ := Aside0.mk ((by rw [hw]; exact below_set (HB.out) GB9.out : Below w.heap.size w w11)); clear HO_3; clear HB; have HO_3 := n0_; have HB := n1_; clear n0_ n1_; clear hg hw hp_))
                go_roundg k1
                case measure => have := HK1.out; omega
                case rel => exact ⟨(y1217), (wrap64 (x4_1 + 1)), (by first | rfl | (simp; done) | (simp [*]; done)), H', ⟨by have := HK1.out; omega⟩, ⟨by (with_reducible repeat (first | apply Kd.R_alloc | apply Kd.R_drewN | apply Kd.R_drew)); exact HO_3.out⟩, ⟨by repeat (first | (with_reducible first | exact HB.out | apply below_alloc | apply pw_below_drewN | apply below_drew1) | exact HB.out)⟩⟩
              · rw [if_neg c8] at H
                exact absurd H (by simp)
            · rw [if_neg c7] at H
              exact absurd H (by simp)
          · rw [if_neg c6] at H
            have c6b0 : decide (x4_1 < (l0.length : Int)) = false := decide_eq_false c6
            clear c6
            obtain rfl := Option.some.inj H
            go_wp2
            go_ret
            exact ⟨_, by first | rfl | (simp [errW_none, errW_some] <;> rfl) | (simp [*, errW_none, errW_some] <;> rfl), by (with_reducible repeat (first | apply Kd.R_alloc | apply Kd.R_drewN | apply Kd.R_drew)); exact HO_3.out, by repeat (first | (with_reducible first | exact HB.out | apply below_alloc | apply pw_below_drewN | apply below_drew1) | exact HB.out)⟩
    · rw [if_neg c3] at H
      exact absurd H (by simp)
  · rw [if_neg c2] at H
    exact absurd H (by simp)
end Go.Proofs.YticjkfacdmmopaaDoor.Q
namespace Go.Proofs.YticjkfacdmmopaaDoor.Pure
open Go.RowKit Go.Proofs.YticjkfacdmmopaaDoor.Ext Go.Proofs.YticjkfacdmmopaaDoor.Q Go.Proofs.YticjkfacdmmopaaDoor.Txt Go.Proofs.YticjkfacdmmopaaDoor.Face Go.Proofs.YticjkfacdmmopaaDoorW.PrintWords Go.Proofs.YticjkfacdmmopaaDoorW.PrintLast Go.Proofs.YticjkfacdmmopaaDoorW.PrintMore
set_option linter.unusedVariables false
set_option linter.unusedSimpArgs false
end Go.Proofs.YticjkfacdmmopaaDoor.Pure
namespace Go.Proofs.YticjkfacdmmopaaDoor.Ext
open Go.RowKit Go.Proofs.YticjkfacdmmopaaDoor.Q Go.Proofs.YticjkfacdmmopaaDoor.Txt Go.Proofs.YticjkfacdmmopaaDoor.Face Go.Proofs.YticjkfacdmmopaaDoorW.PrintWords Go.Proofs.YticjkfacdmmopaaDoorW.PrintLast Go.Proofs.YticjkfacdmmopaaDoorW.PrintMore
set_option linter.unusedVariables false
set_option linter.unusedSimpArgs false
def idxS (p : ByteArray → Bool) : List ByteArray → Int
  | [] => -1
  | x :: xs => if p x then 0 else if idxS p xs < 0 then -1 else idxS p xs + 1
theorem idxS_lo (p : ByteArray → Bool) (l : List ByteArray) : -1 ≤ idxS p l ∧ idxS p l < l.length := by
  induction l with
  | nil => simp [idxS]
  | cons x xs ih => simp only [idxS, List.length_cons]; split <;> (try split) <;> omega
theorem idxS_any_iff (p : ByteArray → Bool) (l : List ByteArray) : 0 ≤ idxS p l ↔ l.any p = true := by
  induction l with
  | nil => simp [idxS]
  | cons x xs ih =>
    have := idxS_lo p xs
    simp only [idxS, List.any_cons, Bool.or_eq_true, ← ih]
    by_cases hx : p x = true
    · simp [hx]
    · rw [if_neg hx]
      split
      · constructor
        · intro h; omega
        · rintro (h | h)
          · exact absurd h hx
          · omega
      · constructor
        · intro h; right; omega
        · intro h; omega
theorem idxS_any (p : ByteArray → Bool) (l : List ByteArray) : decide (0 ≤ idxS p l) = l.any p := by
  rw [Bool.eq_iff_iff, decide_eq_true_iff]
  exact idxS_any_iff p l
theorem idxS_miss (p : ByteArray → Bool) : ∀ (l : List ByteArray), (∀ j, j < l.length → p (l.getD j ByteArray.empty) = false) → idxS p l = -1
  | [], _ => rfl
  | x :: xs, h => by
    have h0 := h 0 (by simp)
    have ih := idxS_miss p xs (fun j hj => by have := h (j + 1) (by simp; omega); simpa using this)
    simp at h0
    simp [idxS, h0, ih]
theorem idxS_hit (p : ByteArray → Bool) : ∀ (l : List ByteArray) (k : Nat), k < l.length → p (l.getD k ByteArray.empty) = true → (∀ j, j < k → p (l.getD j ByteArray.empty) = false) → idxS p l = k
  | [], k, hk, _, _ => by simp at hk
  | x :: xs, 0, hk, h, _ => by simp at h; simp [idxS, h]
  | x :: xs, k + 1, hk, h, hm => by
    have h0 := hm 0 (by omega)
    simp at h0
    have ih := idxS_hit p xs k (by simp at hk; omega) (by simpa using h) (fun j hj => by have := hm (j + 1) (by omega); simpa using this)
    simp [idxS, h0, ih]
    omega
def PrediS (g : Nat) (lb : Array Value) (p : ByteArray → Bool) (w : World) : Prop :=
  ∀ (W : World) (x : ByteArray), Below w.heap.size w W → Calls Tryd.prog g (#[.string x] ++ lb) W fun e w' => e = .returned (.bool (p x)) ∧ Below w.heap.size w w'
set_option maxHeartbeats 1000000 in
theorem indexFunc_str (g : Nat) (lb : Array Value) (p : ByteArray → Bool) (eg : ∀ args w, (callFunc g args).run Tryd.prog w = .ok (.enter g args) w) (A : Option Addr) (c : Nat) (l : List ByteArray) (w : World)
    (hp : PrediS g lb p w) (hr : Kd.C Kd.string w A l.length l) :
    Calls Tryd.prog 145 #[.slice A l.length c, .func (.func g) #[] lb] w fun e w' => e = .returned (.int .i64 (idxS p l)) ∧ Below w.heap.size w w' := by
  have HR := Aside0.mk hr
  have hbig : l.length ≤ 9223372036854775807 := hr.2.1
  clear hr
  go_enter Tryd.func145, Tryd.ntmps145
  go_wp2
  go_loopg [5, 8] l.length (fun gg _ s8 wr => ∃ kk : Nat, kk ≤ l.length ∧ l.length - kk ≤ gg ∧ s8 = .int .i64 kk ∧ Aside0 (Below w.heap.size w wr) ∧ Aside0 (∀ j, j < kk → p (l.getD j ByteArray.empty) = false))
  case atStart => exact ⟨0, Nat.zero_le _, by omega, rfl, ⟨Below.refl _ w⟩, ⟨fun j hj => absurd hj (Nat.not_lt_zero _)⟩⟩
  case round =>
    obtain ⟨kk, hkk, hg, rfl, BW, A1⟩ := hrel
    by_cases hlt : kk < l.length
    · have hltz : (kk : Int) < (l.length : Int) := by omega
      obtain ⟨ad, rfl, hc0⟩ := Kd.at_string HR.out kk (by omega) (by omega)
      rw [Int.toNat_natCast] at hc0
      have hc := (BW.out.cell (World.block_lt_of_cell? w _ hc0)).trans hc0
      have hcall := hp wr (rdOf ByteArray.empty l kk) BW.out
      clear hc0 hp
      generalize hy : rdOf ByteArray.empty l kk = y at hc hcall
      have B := Aside0.mk hy
      clear hy
      cases hq : p y with
      | true =>
        rw [hq] at hcall
        go_wp2_with fail
        refine hcall.mono ?_
        rintro e w' ⟨rfl, hb'⟩
        go_wp2_with fail
        go_ret
        refine ⟨?_, hb'⟩
        rw [idxS_hit p l kk hlt (by have := B.out; unfold rdOf at this; simp only [Int.toNat_natCast] at this; rw [this]; exact hq) A1.out]
        rfl
      | false =>
        rw [hq] at hcall
        go_wp2_with fail
        refine hcall.mono ?_
        rintro e w' ⟨rfl, hb'⟩
        go_wp2_with fail
        go_roundg (l.length - (kk + 1))
        case measure => omega
        case rel =>
          refine ⟨kk + 1, by omega, by omega, by go_num, ⟨hb'⟩, ⟨fun j hj => ?_⟩⟩
          by_cases e : j = kk
          · subst e
            have := B.out; unfold rdOf at this; simp only [Int.toNat_natCast] at this; rw [this]; exact hq
          · exact A1.out j (by omega)
    · have hltz : ¬ (kk : Int) < (l.length : Int) := by omega
      have : kk = l.length := by omega
      subst this
      go_wp2
      go_ret
      refine ⟨?_, BW.out⟩
      rw [idxS_miss p l A1.out]
      rfl
set_option maxHeartbeats 1000000 in
theorem containsFunc_str (g : Nat) (lb : Array Value) (p : ByteArray → Bool) (eg : ∀ args w, (callFunc g args).run Tryd.prog w = .ok (.enter g args) w) (A : Option Addr) (c : Nat) (l : List ByteArray) (w : World)
    (hp : PrediS g lb p w) (hr : Kd.C Kd.string w A l.length l) :
    Calls Tryd.prog 110 #[.slice A l.length c, .func (.func g) #[] lb] w fun e w' => e = .returned (.bool (l.any p)) ∧ Below w.heap.size w w' := by
  rw [← idxS_any]
  go_enter Tryd.func110, Tryd.ntmps110
  go_wp2_with (go_at_call 145; refine (indexFunc_str g lb p eg A c l _ hp hr).mono ?_; rintro e w' ⟨rfl, hb'⟩)
  go_ret
  exact ⟨rfl, hb'⟩
end Go.Proofs.YticjkfacdmmopaaDoor.Ext
namespace Go.Proofs.YticjkfacdmmopaaDoor.Q
open Go.Proofs.YticjkfacdmmopaaDoor.Ext
open Go.RowKit Go.Proofs.YticjkfacdmmopaaDoorW.PrintWords Go.Proofs.YticjkfacdmmopaaDoorW.PrintLast Go.Proofs.YticjkfacdmmopaaDoorW.PrintMore
attribute [local go_sem] max2_int min2_int max_two min_two max_three min_three max_four min_four
set_option linter.unusedVariables false
set_option linter.unusedSimpArgs false
end Go.Proofs.YticjkfacdmmopaaDoor.Q
namespace Go.Proofs.YticjkfacdmmopaaDoor.Ext
end Go.Proofs.YticjkfacdmmopaaDoor.Ext
namespace Go.Proofs.YticjkfacdmmopaaDoor.Q
open Go.Proofs.YticjkfacdmmopaaDoor.Ext
open Go.RowKit Go.Proofs.YticjkfacdmmopaaDoorW.PrintWords Go.Proofs.YticjkfacdmmopaaDoorW.PrintLast Go.Proofs.YticjkfacdmmopaaDoorW.PrintMore
attribute [local go_sem] max2_int min2_int max_two min_two max_three min_three max_four min_four
set_option linter.unusedVariables false
set_option linter.unusedSimpArgs false
end Go.Proofs.YticjkfacdmmopaaDoor.Q
namespace Go.Proofs.YticjkfacdmmopaaDoor.Ext
end Go.Proofs.YticjkfacdmmopaaDoor.Ext
namespace Go.Proofs.YticjkfacdmmopaaDoor.Q
open Go.Proofs.YticjkfacdmmopaaDoor.Ext
open Go.RowKit Go.Proofs.YticjkfacdmmopaaDoorW.PrintWords Go.Proofs.YticjkfacdmmopaaDoorW.PrintLast Go.Proofs.YticjkfacdmmopaaDoorW.PrintMore
attribute [local go_sem] max2_int min2_int max_two min_two max_three min_three max_four min_four
set_option linter.unusedVariables false
set_option linter.unusedSimpArgs false
def laws_eqStringS.l0 : Nat → List ByteArray → List ByteArray → Int → Option (Bool)
  | 0, _, _, _ => none
  | k + 1, x0, x1, x5 => if x5 < (x0.length : Int) then (if 0 ≤ x5 then (if x5 < (x1.length : Int) then (if (rdOf ByteArray.empty x0 x5).toList = (rdOf ByteArray.empty x1 x5).toList then (laws_eqStringS.l0 k x0 x1 (wrap64 (x5 + 1))) else (some false)) else (none)) else (none)) else (some true)
def laws_eqStringS.f (k : Nat) (l0 : List ByteArray) (l1 : List ByteArray) : Option (Bool) := if (l0.length : Int) = (l1.length : Int) then (laws_eqStringS.l0 k l0 l1 0) else (some false)
theorem laws_eqStringS.mono_l : ∀ k, (∀ y0 y1 y2, LeO (laws_eqStringS.l0 k y0 y1 y2) (laws_eqStringS.l0 (k + 1) y0 y1 y2))
  | 0 => fun _ _ _ r h => by simp [laws_eqStringS.l0] at h
  | k + 1 => by
    have ih0 := laws_eqStringS.mono_l k
    · intro y0 y1 y2
      unfold laws_eqStringS.l0
      repeat' first
      | (with_reducible exact ih0 _ _ _)
      | (with_reducible exact LeO.refl _)
      | (with_reducible exact LeO.none _)
      | (with_reducible refine LeO.ite ?_ ?_)
      | (with_reducible refine LeO.bind ?_ (fun _ => ?_))
      | exact ih0 _ _ _
      | exact LeO.none _
      | refine LeO.ite ?_ ?_
      | refine LeO.bind ?_ (fun _ => ?_)
theorem laws_eqStringS.mono : ∀ a0 a1 k, LeO (laws_eqStringS.f k a0 a1) (laws_eqStringS.f (k + 1) a0 a1) := by
  intro a0 a1 k
  have ih0 := laws_eqStringS.mono_l k
  unfold laws_eqStringS.f
  repeat' first
      | (with_reducible exact ih0 _ _ _)
      | (with_reducible exact LeO.refl _)
      | (with_reducible exact LeO.none _)
      | (with_reducible refine LeO.ite ?_ ?_)
      | (with_reducible refine LeO.bind ?_ (fun _ => ?_))
      | exact ih0 _ _ _
      | exact LeO.none _
      | refine LeO.ite ?_ ?_
      | refine LeO.bind ?_ (fun _ => ?_)
set_option maxHeartbeats 8000000 in
set_option maxRecDepth 100000 in
theorem laws_eqStringS.calls (k : Nat) (A0 : Option Addr) (c0 : Nat) (l0 : List ByteArray) (A1 : Option Addr) (c1 : Nat) (l1 : List ByteArray) (r : Bool) (w : World) (hr0 : Kd.C Kd.string w A0 l0.length l0) (hc0 : l0.length ≤ c0) (hr1 : Kd.C Kd.string w A1 l1.length l1) (hc1 : l1.length ≤ c1) (h : laws_eqStringS.f k l0 l1 = some r) :
    Calls Tryd.prog 43 #[.slice A0 l0.length c0, .slice A1 l1.length c1] w fun e w' => e = .returned (.bool r) ∧ Drawn0 w w' := by
  have HR0 := Aside0.mk hr0
  have HC0 := Aside0.mk hc0
  clear hr0 hc0
  have HR1 := Aside0.mk hr1
  have HC1 := Aside0.mk hc1
  clear hr1 hc1
  have H : (if (l0.length : Int) = (l1.length : Int) then (laws_eqStringS.l0 k l0 l1 0) else (some false)) = some r := h
  clear h
  by_cases c3 : (l0.length : Int) = (l1.length : Int)
  · rw [if_pos c3] at H
    have c3b0 : ((l0.length : Int) == (l1.length : Int)) = true := beq_iff_eq.mpr c3
    have c3b1 : ((l0.length : Int) != (l1.length : Int)) = false := bne_eq_false_iff_eq.mpr c3
    have c3b2 : (l0.length == l1.length) = true := by first | simpa using c3 | (simp at c3 ⊢; omega)
    clear c3
    have H' := Aside0.mk H
    clear H
    go_enter Tryd.func43, Tryd.ntmps43
    go_wp2
    repeat (go_quiet (fail); try go_wp2)
    go_loopg [5] k (fun kq v5 w' => ∃ (x5_1 : Int), v5 = .int .i64 x5_1 ∧ Aside0 (laws_eqStringS.l0 kq l0 l1 x5_1 = some r) ∧ Aside0 (kq ≤ k) ∧ Drawn0 w w')
    case atStart => exact ⟨(0), (by first | rfl | (simp; done) | (simp [*]; done)), H', ⟨Nat.le_refl _⟩, by repeat (first | exact Drawn0.refl _ | apply Drawn0.step)⟩
    case round =>
      clear H'
      try clear c1
      try clear p2
      try clear c3
      try clear c3b0
      try clear c3b1
      try clear c3b2
      obtain ⟨x5_1, rfl, HA, HK1, ⟨m1, rfl⟩⟩ := hrel
      cases gk with
      | zero => exact absurd HA.out (by simp [laws_eqStringS.l0])
      | succ k1 =>
        have H := HA.out
        clear HA
        simp only [laws_eqStringS.l0] at H
        by_cases c4 : x5_1 < (l0.length : Int)
        · rw [if_pos c4] at H
          have c4b0 : decide (x5_1 < (l0.length : Int)) = true := decide_eq_true c4
          clear c4
          by_cases c5 : 0 ≤ x5_1
          · rw [if_pos c5] at H
            have c5b0 : decide (0 ≤ x5_1) = true := decide_eq_true c5
            clear c5
            by_cases c6 : x5_1 < (l1.length : Int)
            · rw [if_pos c6] at H
              have c6b0 : decide (x5_1 < (l1.length : Int)) = true := decide_eq_true c6
              clear c6
              by_cases c7 : (rdOf ByteArray.empty l0 x5_1).toList = (rdOf ByteArray.empty l1 x5_1).toList
              · rw [if_pos c7] at H
                have c7b0 : ((rdOf ByteArray.empty l0 x5_1).toList == (rdOf ByteArray.empty l1 x5_1).toList) = true := beq_iff_eq.mpr c7
                have c7b1 : ((rdOf ByteArray.empty l0 x5_1).toList != (rdOf ByteArray.empty l1 x5_1).toList) = false := bne_eq_false_iff_eq.mpr c7
                clear c7
                have H' := Aside0.mk H
                clear H
                have p1224 : 0 ≤ (x5_1 : Int) := of_decide_eq_true (by first | (with_reducible assumption) | assumption)
                have q1224 : x5_1 < (l0.length : Int) := of_decide_eq_true (by first | (with_reducible assumption) | assumption)
                obtain ⟨ad1224, e1224, hx1224_0⟩ := Kd.at_string HR0.out x5_1 p1224 q1224
                cases e1224
                replace p1224 := eq_true p1224
                replace q1224 := eq_true q1224
                have p1225 : 0 ≤ (x5_1 : Int) := of_decide_eq_true (by first | (with_reducible assumption) | assumption)
                have q1225 : x5_1 < (l1.length : Int) := of_decide_eq_true (by first | (with_reducible assumption) | assumption)
                obtain ⟨ad1225, e1225, hx1225_0⟩ := Kd.at_string HR1.out x5_1 p1225 q1225
                cases e1225
                replace p1225 := eq_true p1225
                replace q1225 := eq_true q1225
                go_wp2
                repeat (go_quiet (fail); try go_wp2)
                go_roundg k1
                case measure => have := HK1.out; omega
                case rel => exact ⟨(wrap64 (x5_1 + 1)), (by first | rfl | (simp; done) | (simp [*]; done)), H', ⟨by have := HK1.out; omega⟩, by repeat (first | exact Drawn0.refl _ | apply Drawn0.step)⟩
              · rw [if_neg c7] at H
                have c7b0 : ((rdOf ByteArray.empty l0 x5_1).toList == (rdOf ByteArray.empty l1 x5_1).toList) = false := beq_eq_false_iff_ne.mpr c7
                have c7b1 : ((rdOf ByteArray.empty l0 x5_1).toList != (rdOf ByteArray.empty l1 x5_1).toList) = true := bne_iff_ne.mpr c7
                obtain rfl := Option.some.inj H
                have p1224 : 0 ≤ (x5_1 : Int) := of_decide_eq_true (by first | (with_reducible assumption) | assumption)
                have q1224 : x5_1 < (l0.length : Int) := of_decide_eq_true (by first | (with_reducible assumption) | assumption)
                obtain ⟨ad1224, e1224, hx1224_0⟩ := Kd.at_string HR0.out x5_1 p1224 q1224
                cases e1224
                replace p1224 := eq_true p1224
                replace q1224 := eq_true q1224
                have p1225 : 0 ≤ (x5_1 : Int) := of_decide_eq_true (by first | (with_reducible assumption) | assumption)
                have q1225 : x5_1 < (l1.length : Int) := of_decide_eq_true (by first | (with_reducible assumption) | assumption)
                obtain ⟨ad1225, e1225, hx1225_0⟩ := Kd.at_string HR1.out x5_1 p1225 q1225
                cases e1225
                replace p1225 := eq_true p1225
                replace q1225 := eq_true q1225
                go_wp2
                repeat (go_quiet (fail); try go_wp2)
                go_ret
                exact ⟨by first | rfl | (simp; done) | (simp [*]; done), by repeat (first | exact Drawn0.refl _ | apply Drawn0.step)⟩
            · rw [if_neg c6] at H
              exact absurd H (by simp)
          · rw [if_neg c5] at H
            exact absurd H (by simp)
        · rw [if_neg c4] at H
          have c4b0 : decide (x5_1 < (l0.length : Int)) = false := decide_eq_false c4
          clear c4
          obtain rfl := Option.some.inj H
          go_wp2
          repeat (go_quiet (fail); try go_wp2)
          go_ret
          exact ⟨by first | rfl | (simp; done) | (simp [*]; done), by repeat (first | exact Drawn0.refl _ | apply Drawn0.step)⟩
  · rw [if_neg c3] at H
    have c3b0 : ((l0.length : Int) == (l1.length : Int)) = false := beq_eq_false_iff_ne.mpr c3
    have c3b1 : ((l0.length : Int) != (l1.length : Int)) = true := bne_iff_ne.mpr c3
    have c3b2 : (l0.length == l1.length) = false := by first | simpa using c3 | (simp at c3 ⊢; omega)
    obtain rfl := Option.some.inj H
    go_enter Tryd.func43, Tryd.ntmps43
    go_wp2
    repeat (go_quiet (fail); try go_wp2)
    go_ret
    exact ⟨by first | rfl | (simp; done) | (simp [*]; done), by repeat (first | exact Drawn0.refl _ | apply Drawn0.step)⟩
end Go.Proofs.YticjkfacdmmopaaDoor.Q
namespace Go.Proofs.YticjkfacdmmopaaDoor.Pure
open Go.RowKit Go.Proofs.YticjkfacdmmopaaDoor.Ext Go.Proofs.YticjkfacdmmopaaDoor.Q Go.Proofs.YticjkfacdmmopaaDoorW.PrintWords Go.Proofs.YticjkfacdmmopaaDoorW.PrintLast Go.Proofs.YticjkfacdmmopaaDoorW.PrintMore
set_option linter.unusedVariables false
set_option linter.unusedSimpArgs false
set_option maxRecDepth 100000
theorem rdOf_get (l : List ByteArray) (i : Nat) (h : i < l.length) : rdOf ByteArray.empty l (i : Int) = l[i] := by
  unfold rdOf
  rw [Int.toNat_natCast, List.getD_eq_getElem?_getD, List.getElem?_eq_getElem h]
  rfl
theorem szS_l0 (l : List ByteArray) (hn : l.length ≤ 1048576) (hs : ∀ s ∈ l, s.size ≤ 9223372036854775807) : ∀ (d k i : Nat) (x : Int), i + d = l.length → d < k → 0 ≤ x → x ≤ 1048576 → ∃ r, laws_szStringS.l0 k l x i = some r ∧ (r < 0 ∨ ∀ s ∈ l.drop i, s.size ≤ 1048576)
  | 0, k, i, x, hd, hk, h0, h1 => by
    obtain ⟨k, rfl⟩ := some_k hk
    rw [laws_szStringS.l0, if_neg (by omega), List.drop_eq_nil_of_le (by omega)]
    exact ⟨x, rfl, .inr (by simp)⟩
  | d + 1, k, i, x, hd, hk, h0, h1 => by
    obtain ⟨k, rfl⟩ := some_k hk
    have hi : i < l.length := by omega
    have hz := hs _ (List.getElem_mem hi)
    rw [laws_szStringS.l0, if_pos (by omega), if_pos (by omega), rdOf_get l i hi, w64 (x := x - (l[i].size : Int)) (by omega) (by omega), wrap_succ i (by omega)]
    by_cases h : x - (l[i].size : Int) < 0
    · rw [if_pos h]
      exact ⟨-1, rfl, .inl (by omega)⟩
    · rw [if_neg h]
      obtain ⟨r, hr, hr2⟩ := szS_l0 l hn hs d k (i + 1) _ (by omega) (by omega) (by omega : 0 ≤ x - (l[i].size : Int)) (by omega)
      refine ⟨r, hr, hr2.imp id fun hh => ?_⟩
      rw [List.drop_eq_getElem_cons hi]
      intro s hs'
      rcases List.mem_cons.1 hs' with rfl | hs'
      · omega
      · exact hh s hs'
theorem szS_eq (l : List ByteArray) (hn : l.length ≤ 9223372036854775807) (hs : ∀ s ∈ l, s.size ≤ 9223372036854775807) (x : Int) (h0 : 0 ≤ x) (h1 : x ≤ 1048576) {k : Nat} (hk : 1048576 < k) : ∃ r, laws_szStringS.f k l x = some r ∧ (r < 0 ∨ l.length ≤ 1048576 ∧ ∀ s ∈ l, s.size ≤ 1048576) := by
  unfold laws_szStringS.f
  rw [w64 (x := x - (l.length : Int)) (by omega) (by omega)]
  by_cases h : x - (l.length : Int) < 0
  · rw [if_pos h]
    exact ⟨-1, rfl, .inl (by omega)⟩
  · rw [if_neg h]
    obtain ⟨r, hr, hr2⟩ := szS_l0 l (by omega) hs l.length k 0 (x - (l.length : Int)) (by omega) (by omega) (by omega) (by omega)
    rw [show ((0 : Nat) : Int) = 0 from rfl] at hr
    exact ⟨r, hr, hr2.imp id fun hh => ⟨by omega, hh⟩⟩
theorem toS_l0 (l : List ByteArray) (hl : l.length ≤ 1048576) : ∀ (d k n : Nat) (x : List ByteArray), n + d = l.length → d < k → x.length = l.length → x.take n = l.take n → laws_toStringS.l0 k l x n = some l
  | 0, k, n, x, hd, hk, hx, ht => by
    obtain ⟨k, rfl⟩ := some_k hk
    rw [laws_toStringS.l0, if_neg (by omega)]
    obtain rfl : n = l.length := by omega
    rw [List.take_length, ← hx, List.take_length] at ht
    rw [ht]
  | d + 1, k, n, x, hd, hk, hx, ht => by
    obtain ⟨k, rfl⟩ := some_k hk
    have hn : n < l.length := by omega
    rw [laws_toStringS.l0, if_pos (by omega), if_pos (by omega), if_pos (by omega), wrap_succ n (by omega), rdOf_get l n hn, Int.toNat_natCast]
    refine toS_l0 l hl d k (n + 1) _ (by omega) (by omega) (by simpa using hx) ?_
    rw [List.take_succ_eq_append_getElem (by simp; omega), List.take_set, List.set_eq_of_length_le (by simp; omega), ht, List.take_succ_eq_append_getElem hn]
    simp
theorem toS_eq (l : List ByteArray) (hl : l.length ≤ 1048576) {k : Nat} (hk : 1048576 < k) : laws_toStringS.f k l = some l := by
  unfold laws_toStringS.f
  rw [if_pos (by omega), if_pos (by omega)]
  have h := toS_l0 l hl l.length k 0 (List.replicate ((l.length : Int)).toNat (⟨#[]⟩ : ByteArray)) (by omega) (by omega) (by simp) (by simp)
  exact h
theorem eqS_l0 (l : List ByteArray) (hl : l.length ≤ 1048576) : ∀ (d k n : Nat), n + d = l.length → d < k → laws_eqStringS.l0 k l l n = some true
  | 0, k, n, hd, hk => by
    obtain ⟨k, rfl⟩ := some_k hk
    rw [laws_eqStringS.l0, if_neg (by omega)]
  | d + 1, k, n, hd, hk => by
    obtain ⟨k, rfl⟩ := some_k hk
    rw [laws_eqStringS.l0, if_pos (by omega), if_pos (by omega), if_pos (by omega), if_pos rfl, wrap_succ n (by omega)]
    exact eqS_l0 l hl d k (n + 1) (by omega) (by omega)
theorem eqS_self (l : List ByteArray) (hl : l.length ≤ 1048576) {k : Nat} (hk : 1048576 < k) : laws_eqStringS.f k l l = some true := by
  unfold laws_eqStringS.f
  rw [if_pos rfl]
  exact eqS_l0 l hl l.length k 0 (by omega) (by omega)
end Go.Proofs.YticjkfacdmmopaaDoor.Pure
namespace Go.Proofs.YticjkfacdmmopaaDoor.Ext
open Go.RowKit Go.Proofs.YticjkfacdmmopaaDoor.Q Go.Proofs.YticjkfacdmmopaaDoor.Txt Go.Proofs.YticjkfacdmmopaaDoor.Face Go.Proofs.YticjkfacdmmopaaDoor.Pure Go.Proofs.YticjkfacdmmopaaDoorW.PrintWords Go.Proofs.YticjkfacdmmopaaDoorW.PrintLast Go.Proofs.YticjkfacdmmopaaDoorW.PrintMore
set_option linter.unusedVariables false
set_option linter.unusedSimpArgs false
set_option maxRecDepth 100000
def cheapL (L Q : List Int) : List ByteArray → Nat → Int → Int → Int × Int
  | [], _, best, least => (best, least)
  | s :: l, i, best, least => if priceT L Q s.data.toList < least then cheapL L Q l (i + 1) i (priceT L Q s.data.toList) else cheapL L Q l (i + 1) best least
def cheapF (L Q : List Int) : List ByteArray → Int × Int × Int
  | [] => (0, 0, 6)
  | s :: l => ((cheapL L Q l 1 0 (priceT L Q s.data.toList)).1, (cheapL L Q l 1 0 (priceT L Q s.data.toList)).2, 0)
def cheapC (L : List Int) (P : List Pr) (Q : List Int) (l : List ByteArray) : Int × Int × Int :=
  if (faceB L P && (pricesB Q && l.all fun s => txt s.data.toList)) = true then (if 20 < l.length then (0, 0, 3) else cheapF L Q l) else (0, 0, 1)
theorem price_as (L : List Int) (hl : L.length = 28) (P : List Pr) (hF : FaceOk L P) (Q : List Int) (hq : Q.length = 29) (s : ByteArray) (hs : s.size ≤ 60) (ht : okTxt s.data.toList) (g1 g2 : Nat) (w0 w : World) (hI : FaceAt w0 w g1 L P) (hJ : PricesAt w g2 Q) {p : Int} (hp : priceT L Q s.data.toList = p) :
    Calls Tryd.prog 97 #[.pointer (some ⟨g1, 0, none⟩), .pointer (some ⟨g2, 0, none⟩), .string s] w fun e w' => e = .returned (.int .i64 p) ∧ Below w.heap.size w w' := by
  subst hp
  exact l06Price_calls L hl P hF Q hq s hs ht g1 g2 w0 w hI hJ
set_option maxHeartbeats 2000000 in
theorem specCheap_calls (L : List Int) (hl : L.length = 28) (A : Option Addr) (c : Nat) (P : List Pr) (hr : rngB L P = true) (Q : List Int) (hq : Q.length = 29) (hw : ∀ y ∈ Q, -32768 ≤ y ∧ y ≤ 32767) (A2 : Option Addr) (c2 : Nat) (l : List ByteArray) (hs : ∀ s ∈ l, s.size ≤ 1048576) (hn : l.length ≤ 1048576) (w : World) (hC : Kd.C kPr w A P.length P) (hC2 : Kd.C Kd.string w A2 l.length l) (hc2 : l.length ≤ c2) :
    Calls Tryd.prog 55 #[.agg (faceV L A P.length c), .agg (cellsK .i16 Q), .slice A2 l.length c2] w fun e w' => e = .returned (.tuple #[.int .i64 (cheapC L P Q l).1, .int .i64 (cheapC L P Q l).2.1, .int .i64 (cheapC L P Q l).2.2]) ∧ Below w.heap.size w w' := by
  have B0 := Aside0.mk (blk_alloc (blk_new w (.cells (faceV L A P.length c) 32)) (.cells (cellsK .i16 Q) 62))
  have B1 := Aside0.mk (blk_at (W := w.alloc (.cells (faceV L A P.length c) 32)) (n := w.heap.size + 1) (by simp) (.cells (cellsK .i16 Q) 62))
  have HB := Aside0.mk (below_alloc (below_alloc (Below.refl w.heap.size w) (.cells (faceV L A P.length c) 32)) (.cells (cellsK .i16 Q) 62))
  have HR := Aside0.mk hr
  have HS := Aside0.mk hs
  have HC := Aside0.mk hC
  have HC2 := Aside0.mk hC2
  have HW := Aside0.mk hw
  have HN := Aside0.mk hn
  obtain ⟨res, hres⟩ : ∃ res, cheapC L P Q l = res := ⟨_, rfl⟩
  rw [hres]
  have HRes := Aside0.mk hres
  clear hr hs hC hw hn hC2 hres
  go_enter Tryd.func55, Tryd.ntmps55
  go_wp2_with fail
  refine (spec_l01Face.calls w.heap.size (rd L 0) (rd L 1) (rd L 2) (rd L 3) (rd L 4) (rd L 5) (rd L 6) (rd L 7) (rd L 8) (rd L 9) (rd L 10) (rd L 11) (rd L 12) (rd L 13) (rd L 14) (rd L 15) (rd L 16) (rd L 17) (rd L 18) (rd L 19) (rd L 20) (rd L 21) (rd L 22) (rd L 23) (rd L 24) (rd L 25) (rd L 26) (rd L 27) P (faceB L P) w _ (FaceAt.new hl B0.out (Nat.le_refl _) HC.out) HB.out (Pure.l01Face_eq hl HR.out)).mono ?_
  rintro e w1 ⟨rfl, hI1, hB1, hk1⟩
  have HI1 : Aside0 (FaceAt w w1 w.heap.size L P) := ⟨hI1⟩
  have HJ1 : Aside0 (PricesAt w1 (w.heap.size + 1) Q) := ⟨hk1.blk B1.out (by omega) (by simp)⟩
  have HB1 := Aside0.mk hB1
  clear hI1 hB1 hk1 B0 B1 HB
  cases hf : faceB L P
  · go_wp2
    go_ret3
    have e0 : res = (0, 0, 1) := by rw [← HRes.out]; unfold cheapC; rw [hf]; rfl
    rw [e0]
    exact ⟨rfl, HB1.out⟩
  go_wp2_with fail
  refine (l06Prices_calls (w.heap.size + 1) Q hq HW.out _ HJ1.out).mono ?_
  rintro e w2 ⟨rfl, rfl⟩
  cases hg : pricesB Q
  · go_wp2
    go_ret3
    have e0 : res = (0, 0, 1) := by rw [← HRes.out]; unfold cheapC; rw [hf, hg]; rfl
    rw [e0]
    exact ⟨rfl, HB1.out⟩
  have HF := Aside0.mk (faceOk hl HR.out hf)
  have HRes2 : Aside0 (res = if (l.all fun s => txt s.data.toList) = true then (if 20 < l.length then (0, 0, 3) else cheapF L Q l) else (0, 0, 1)) := ⟨by rw [← HRes.out]; unfold cheapC; rw [hf, hg, Bool.true_and, Bool.true_and]⟩
  clear HRes hf hg HR HC
  go_wp2_with fail
  go_loopw [9] (fun i wr => ∃ n : Nat, n ≤ l.length ∧ i = .int .i64 n ∧ Aside0 (((l.take n).all fun s => txt s.data.toList) = true) ∧ Aside0 (FaceAt w wr w.heap.size L P) ∧ Aside0 (PricesAt wr (w.heap.size + 1) Q) ∧ Aside0 (Below w.heap.size w wr)) (fun i _ => l.length - (intOf i).toNat)
  case atStart => exact ⟨0, by omega, rfl, ⟨by simp⟩, HI1, HJ1, HB1⟩
  case round =>
    clear HI1 HJ1 HB1
    obtain ⟨n, hn, rfl, HA, HI1, HJ1, HB1⟩ := hrel
    have hN := HN.out
    by_cases hlt : n < l.length
    · have hltz : (n : Int) < (l.length : Int) := by omega
      obtain ⟨ad, ea, hc⟩ := Kd.at_string (Kd.C_below HC2.out HB1.out) (n : Int) (by omega) (by omega)
      subst ea
      rw [Int.toNat_natCast] at hc
      obtain ⟨s, hsx⟩ : ∃ s, rdOf ByteArray.empty l (n : Int) = s := ⟨_, rfl⟩
      rw [hsx] at hc
      rw [rdOf_get l n hlt] at hsx
      have hsz : s.size ≤ 1048576 := by rw [← hsx]; exact HS.out _ (List.getElem_mem hlt)
      have hn0 : (0 : Int) ≤ (n : Int) := by omega
      have HSx := Aside0.mk hsx
      have HSz := Aside0.mk hsz
      clear hsx hsz
      go_wp2_with fail
      refine (spec_l01Text.calls 1048577 s (txt s.data.toList) _ (Pure.text_eq s (by have := HSz.out; omega) (by have := HSz.out; omega))).mono ?_
      rintro e w3 ⟨rfl, hd⟩
      have hb3 := hd.below
      replace HI1 := Aside0.mk (HI1.out.below hb3)
      replace HJ1 : Aside0 (PricesAt w3 (w.heap.size + 1) Q) := ⟨blk_below HJ1.out hb3⟩
      replace HB1 := Aside0.mk (below_step HB1.out hb3)
      clear hd hb3
      cases ht : txt s.data.toList
      · go_wp2_with fail
        go_ret3
        have e0 : res = (0, 0, 1) := by
          rw [HRes2.out, if_neg]
          intro hh
          have := List.all_eq_true.1 hh _ (List.getElem_mem hlt)
          rw [HSx.out, ht] at this
          cases this
        rw [e0]
        exact ⟨rfl, HB1.out⟩
      · go_wp2_with fail
        go_roundw
        case rel => exact ⟨n + 1, by omega, by go_num, ⟨by rw [List.take_succ_eq_append_getElem hlt, List.all_append, HA.out, HSx.out]; simp [ht]⟩, HI1, HJ1, HB1⟩
        case measure => simp [intOf]; omega
    · have hltz : ¬ (n : Int) < (l.length : Int) := by omega
      obtain rfl : n = l.length := by omega
      have hall := HA.out
      rw [List.take_length] at hall
      have hR := HRes2.out
      rw [if_pos hall] at hR
      have HAll := Aside0.mk hall
      clear HA HRes2 hall
      by_cases h20 : 20 < l.length
      · have h20z : (l.length : Int) > 20 := by omega
        rw [if_pos h20] at hR
        subst hR
        go_wp2
        go_ret3
        exact ⟨rfl, HB1.out⟩
      have h20z : ¬ (l.length : Int) > 20 := by omega
      rw [if_neg h20] at hR
      by_cases h0 : l.length = 0
      · have h0z : (l.length : Int) = 0 := by omega
        have e1 : l = [] := List.length_eq_zero_iff.1 h0
        have e0 : res = (0, 0, 6) := by rw [hR, e1]; rfl
        subst e0
        have h0b : ((l.length : Int) == 0) = true := by rw [beq_iff_eq]; exact h0z
        clear hR e1 h0
        go_wp2
        go_ret3
        exact ⟨rfl, HB1.out⟩
      have h0z : ¬ (l.length : Int) = 0 := by omega
      have h0b : ((l.length : Int) == 0) = false := by rw [beq_eq_false_iff_ne]; exact h0z
      obtain ⟨s0, t0, hst⟩ : ∃ s0 t0, l = s0 :: t0 := by
        cases l with
        | nil => exact absurd rfl h0
        | cons a b => exact ⟨a, b, rfl⟩
      have hcl : cheapL L Q (l.drop 1) 1 0 (priceT L Q (rdOf ByteArray.empty l (0 : Nat)).data.toList) = (res.1, res.2.1) ∧ res.2.2 = 0 := by
        rw [hR, hst]; exact ⟨rfl, rfl⟩
      have HCl := Aside0.mk hcl.1
      have HC0 := Aside0.mk hcl.2
      have h1l : 1 ≤ l.length := by omega
      clear hR hst hcl h0
      go_wp2_with fail
      go_loopw [10, 11] (fun b i wr => ∃ n bn : Nat, n ≤ l.length ∧ bn < n ∧ 1 ≤ n ∧ i = .int .i64 n ∧ b = .int .i64 bn ∧ Aside0 (cheapL L Q (l.drop n) n bn (priceT L Q (rdOf ByteArray.empty l (bn : Int)).data.toList) = (res.1, res.2.1)) ∧ Aside0 (FaceAt w wr w.heap.size L P) ∧ Aside0 (PricesAt wr (w.heap.size + 1) Q) ∧ Aside0 (Below w.heap.size w wr)) (fun _ i _ => l.length - (intOf i).toNat)
      case atStart => exact ⟨1, 0, by omega, by omega, by omega, rfl, rfl, HCl, HI1, HJ1, HB1⟩
      case round =>
        clear HI1 HJ1 HB1 HCl
        obtain ⟨n, bn, hn, hbn, hn1, rfl, rfl, HCl, HI1, HJ1, HB1⟩ := hrel
        obtain ⟨ad, ea, hcb⟩ := Kd.at_string (Kd.C_below HC2.out HB1.out) (bn : Int) (by omega) (by omega)
        subst ea
        rw [Int.toNat_natCast] at hcb
        obtain ⟨s2, hs2⟩ : ∃ s, rdOf ByteArray.empty l (bn : Int) = s := ⟨_, rfl⟩
        rw [hs2] at hcb HCl
        have hbl : bn < l.length := by omega
        have ht2 : txt s2.data.toList = true := by rw [← hs2, rdOf_get l bn hbl]; exact List.all_eq_true.1 HAll.out _ (List.getElem_mem hbl)
        have hb0 : (0 : Int) ≤ (bn : Int) := by omega
        have hbz : (bn : Int) < (l.length : Int) := by omega
        have HT2 := Aside0.mk ht2
        clear ht2
        by_cases hlt : n < l.length
        · have hltz : (n : Int) < (l.length : Int) := by omega
          obtain ⟨ad', ea, hcn⟩ := Kd.at_string (Kd.C_below HC2.out HB1.out) (n : Int) (by omega) (by omega)
          obtain rfl : ad = ad' := by injection ea
          clear ea
          rw [Int.toNat_natCast] at hcn
          obtain ⟨s1, hs1⟩ : ∃ s, rdOf ByteArray.empty l (n : Int) = s := ⟨_, rfl⟩
          rw [hs1] at hcn
          have ht1 : txt s1.data.toList = true := by rw [← hs1, rdOf_get l n hlt]; exact List.all_eq_true.1 HAll.out _ (List.getElem_mem hlt)
          have hn0 : (0 : Int) ≤ (n : Int) := by omega
          have HT1 := Aside0.mk ht1
          have hcl := HCl.out
          have hdr : l.drop n = s1 :: l.drop (n + 1) := by rw [List.drop_eq_getElem_cons hlt, ← hs1, rdOf_get l n hlt]
          rw [hdr, cheapL] at hcl
          have HS1 := Aside0.mk hs1
          have HS2 := Aside0.mk hs2
          have HCx := Aside0.mk hcl
          clear ht1 hcl hdr HCl hs1 hs2
          obtain ⟨p1, hp1⟩ : ∃ p, priceT L Q s1.data.toList = p := ⟨_, rfl⟩
          obtain ⟨p2, hp2⟩ : ∃ p, priceT L Q s2.data.toList = p := ⟨_, rfl⟩
          have HP1 := Aside0.mk hp1
          have HP2 := Aside0.mk hp2
          rw [hp1, hp2] at HCx
          clear hp1 hp2
          by_cases hlp : p1 < p2
          · have hcx := HCx.out
            rw [if_pos hlp] at hcx
            have HCy := Aside0.mk hcx
            clear hcx HCx
            go_wp2_with fail
            refine start_ (n := 11) (S := fun w' => w'.cell? (ad.add n) = some (.string s1) ∧ w'.cell? (ad.add bn) = some (.string s2) ∧ FaceAt w w' w.heap.size L P ∧ PricesAt w' (w.heap.size + 1) Q ∧ Below w.heap.size w w') (ds := []) #[false, false, false, false, false, false, false, false, false, false, false] (by kernel_rfl) rfl rfl ⟨(cellB1 hcn (below_drew (Below.refl _ _))), (cellB1 hcb (below_drew (Below.refl _ _))), (HI1.out.below (below_drew (Below.refl _ _))), (blk_below HJ1.out (below_drew (Below.refl _ _))), (below_step HB1.out (below_drew (Below.refl _ _)))⟩ (fun hHeld => ?_)
            refine pure_ (i := 0) (N := some 42) (v := ?_) (a' := ?_) #[true, false, false, false, false, false, false, false, false, false, false] rfl rfl (by kernel_rfl) (fun _ _ _ h => h) (Or.inl ⟨by rfl, ?_⟩) ?_ ?_
            rotate_left
            · intro w'
              go_simp
              with_reducible rfl
            rotate_left
            · simp only [Act.put, List.setIfInBounds_toArray, List.set_cons_zero, List.set_cons_succ, i64_w, i32_w]
              rfl
            refine pure_ (i := 1) (N := some 43) (v := ?_) (a' := ?_) #[true, true, false, false, false, false, false, false, false, false, false] rfl rfl (by kernel_rfl) (fun _ _ _ h => h) (Or.inl ⟨by rfl, ?_⟩) ?_ ?_
            rotate_left
            · intro w'
              go_simp
              with_reducible rfl
            rotate_left
            · simp only [Act.put, List.setIfInBounds_toArray, List.set_cons_zero, List.set_cons_succ, i64_w, i32_w]
              rfl
            refine pure_ (i := 2) (N := some 44) (v := ?_) (a' := ?_) #[true, true, true, false, false, false, false, false, false, false, false] rfl rfl (by kernel_rfl) (fun _ _ _ h => h) (Or.inl ⟨by rfl, ?_⟩) ?_ ?_
            rotate_left
            · intro w'
              go_simp
              with_reducible rfl
            rotate_left
            · simp only [Act.put, List.setIfInBounds_toArray, List.set_cons_zero, List.set_cons_succ, i64_w, i32_w]
              rfl
            refine pure_ (i := 5) (N := some 47) (v := ?_) (a' := ?_) #[true, true, true, false, false, true, false, false, false, false, false] rfl rfl (by kernel_rfl) (fun _ _ _ h => h) (Or.inl ⟨by rfl, ?_⟩) ?_ ?_
            rotate_left
            · intro w'
              go_simp
              with_reducible rfl
            rotate_left
            · simp only [Act.put, List.setIfInBounds_toArray, List.set_cons_zero, List.set_cons_succ, i64_w, i32_w]
              rfl
            refine pure_ (i := 6) (N := some 48) (v := ?_) (a' := ?_) #[true, true, true, false, false, true, true, false, false, false, false] rfl rfl (by kernel_rfl) (fun _ _ _ h => h) (Or.inl ⟨by rfl, ?_⟩) ?_ ?_
            rotate_left
            · intro w'
              go_simp
              with_reducible rfl
            rotate_left
            · simp only [Act.put, List.setIfInBounds_toArray, List.set_cons_zero, List.set_cons_succ, i64_w, i32_w]
              rfl
            refine pure_ (i := 7) (N := some 49) (v := ?_) (a' := ?_) #[true, true, true, false, false, true, true, true, false, false, false] rfl rfl (by kernel_rfl) (fun _ _ _ h => h) (Or.inl ⟨by rfl, ?_⟩) ?_ ?_
            rotate_left
            · intro w'
              go_simp
              with_reducible rfl
            rotate_left
            · simp only [Act.put, List.setIfInBounds_toArray, List.set_cons_zero, List.set_cons_succ, i64_w, i32_w]
              rfl
            refine take_ (i := 3) (N := some 45) (v := ?_) (a' := ?_) #[true, true, true, true, false, true, true, true, false, false, false] rfl rfl (by kernel_rfl) (fun _ _ _ h => h) (Or.inl ⟨by rfl, ?_⟩) hHeld ?_ ?_
            rotate_left
            · rintro w' ⟨s0, s1, s2, s3, s4⟩
              go_simp
              with_reducible rfl
            rotate_left
            · simp only [Act.put, List.setIfInBounds_toArray, List.set_cons_zero, List.set_cons_succ, i64_w, i32_w]
              rfl
            refine take_ (i := 8) (N := some 50) (v := ?_) (a' := ?_) #[true, true, true, true, false, true, true, true, true, false, false] rfl rfl (by kernel_rfl) (fun _ _ _ h => h) (Or.inl ⟨by rfl, ?_⟩) hHeld ?_ ?_
            rotate_left
            · rintro w' ⟨s0, s1, s2, s3, s4⟩
              go_simp
              with_reducible rfl
            rotate_left
            · simp only [Act.put, List.setIfInBounds_toArray, List.set_cons_zero, List.set_cons_succ, i64_w, i32_w]
              rfl
            refine one_ (i := 4) (N := some 46) #[true, true, true, true, true, true, true, true, true, false, false] rfl rfl (by kernel_rfl) (by decide) (fun K hK => ?_)
            refine goes_ Tryd.func97 (by kernel_rfl) rfl #[.pointer (some ⟨w.heap.size, 0, none⟩), .pointer (some ⟨w.heap.size + 1, 0, none⟩), .string s1] (by rfl) rfl rfl (by simp only [List.map_toArray, List.map_cons, List.map_nil]; rfl) ?_
            with_reducible refine ((price_as L hl P HF.out Q hq s1 (txt_size HT1.out) (txt_ok HT1.out) w.heap.size (w.heap.size + 1) w _ hHeld.2.2.1 hHeld.2.2.2.1 HP1.out)).mono ?_
            rintro e w3 ⟨rfl, hb⟩
            refine ⟨_, rfl, ?_⟩
            refine hK.out _ _ ⟨(cellB1 hHeld.1 hb), (cellB1 hHeld.2.1 hb), (hHeld.2.2.1.below hb), (blk_below hHeld.2.2.2.1 hb), (below_step hHeld.2.2.2.2 hb)⟩ (fun hHeld => ?_)
            clear hK K
            refine norm_ (a' := ?_) ?_ ?_
            rotate_left
            · show Act.put _ (some 46) _ = _
              simp only [Act.put, List.setIfInBounds_toArray, List.set_cons_zero, List.set_cons_succ, i64_w, i32_w]
              rfl
            refine one_ (i := 9) (N := some 51) #[true, true, true, true, true, true, true, true, true, true, false] rfl rfl (by kernel_rfl) (by decide) (fun K hK => ?_)
            refine goes_ Tryd.func97 (by kernel_rfl) rfl #[.pointer (some ⟨w.heap.size, 0, none⟩), .pointer (some ⟨w.heap.size + 1, 0, none⟩), .string s2] (by rfl) rfl rfl (by simp only [List.map_toArray, List.map_cons, List.map_nil]; rfl) ?_
            with_reducible refine ((price_as L hl P HF.out Q hq s2 (txt_size HT2.out) (txt_ok HT2.out) w.heap.size (w.heap.size + 1) w _ hHeld.2.2.1 hHeld.2.2.2.1 HP2.out)).mono ?_
            rintro e w3 ⟨rfl, hb⟩
            refine ⟨_, rfl, ?_⟩
            refine hK.out _ _ ⟨(cellB1 hHeld.1 hb), (cellB1 hHeld.2.1 hb), (hHeld.2.2.1.below hb), (blk_below hHeld.2.2.2.1 hb), (below_step hHeld.2.2.2.2 hb)⟩ (fun hHeld => ?_)
            clear hK K
            refine norm_ (a' := ?_) ?_ ?_
            rotate_left
            · show Act.put _ (some 51) _ = _
              simp only [Act.put, List.setIfInBounds_toArray, List.set_cons_zero, List.set_cons_succ, i64_w, i32_w]
              rfl
            refine pure_ (i := 10) (N := some 52) (v := ?_) (a' := ?_) #[true, true, true, true, true, true, true, true, true, true, true] rfl rfl (by kernel_rfl) (fun _ _ _ h => h) (Or.inl ⟨by rfl, ?_⟩) ?_ ?_
            rotate_left
            · intro w'
              go_simp
              with_reducible rfl
            rotate_left
            · simp only [Act.put, List.setIfInBounds_toArray, List.set_cons_zero, List.set_cons_succ, i64_w, i32_w]
              rfl
            refine done_ (by kernel_rfl) ?_
            go_wp2_with fail
            go_roundw
            case rel => exact ⟨n + 1, n, by omega, by omega, by omega, by go_num, rfl, ⟨by rw [HS1.out, HP1.out]; exact HCy.out⟩, ⟨hHeld.2.2.1⟩, ⟨hHeld.2.2.2.1⟩, ⟨hHeld.2.2.2.2⟩⟩
            case measure => simp [intOf]; omega
          · have hcx := HCx.out
            rw [if_neg hlp] at hcx
            have HCy := Aside0.mk hcx
            clear hcx HCx
            go_wp2_with fail
            refine start_ (n := 11) (S := fun w' => w'.cell? (ad.add n) = some (.string s1) ∧ w'.cell? (ad.add bn) = some (.string s2) ∧ FaceAt w w' w.heap.size L P ∧ PricesAt w' (w.heap.size + 1) Q ∧ Below w.heap.size w w') (ds := []) #[false, false, false, false, false, false, false, false, false, false, false] (by kernel_rfl) rfl rfl ⟨(cellB1 hcn (below_drew (Below.refl _ _))), (cellB1 hcb (below_drew (Below.refl _ _))), (HI1.out.below (below_drew (Below.refl _ _))), (blk_below HJ1.out (below_drew (Below.refl _ _))), (below_step HB1.out (below_drew (Below.refl _ _)))⟩ (fun hHeld => ?_)
            refine pure_ (i := 0) (N := some 42) (v := ?_) (a' := ?_) #[true, false, false, false, false, false, false, false, false, false, false] rfl rfl (by kernel_rfl) (fun _ _ _ h => h) (Or.inl ⟨by rfl, ?_⟩) ?_ ?_
            rotate_left
            · intro w'
              go_simp
              with_reducible rfl
            rotate_left
            · simp only [Act.put, List.setIfInBounds_toArray, List.set_cons_zero, List.set_cons_succ, i64_w, i32_w]
              rfl
            refine pure_ (i := 1) (N := some 43) (v := ?_) (a' := ?_) #[true, true, false, false, false, false, false, false, false, false, false] rfl rfl (by kernel_rfl) (fun _ _ _ h => h) (Or.inl ⟨by rfl, ?_⟩) ?_ ?_
            rotate_left
            · intro w'
              go_simp
              with_reducible rfl
            rotate_left
            · simp only [Act.put, List.setIfInBounds_toArray, List.set_cons_zero, List.set_cons_succ, i64_w, i32_w]
              rfl
            refine pure_ (i := 2) (N := some 44) (v := ?_) (a' := ?_) #[true, true, true, false, false, false, false, false, false, false, false] rfl rfl (by kernel_rfl) (fun _ _ _ h => h) (Or.inl ⟨by rfl, ?_⟩) ?_ ?_
            rotate_left
            · intro w'
              go_simp
              with_reducible rfl
            rotate_left
            · simp only [Act.put, List.setIfInBounds_toArray, List.set_cons_zero, List.set_cons_succ, i64_w, i32_w]
              rfl
            refine pure_ (i := 5) (N := some 47) (v := ?_) (a' := ?_) #[true, true, true, false, false, true, false, false, false, false, false] rfl rfl (by kernel_rfl) (fun _ _ _ h => h) (Or.inl ⟨by rfl, ?_⟩) ?_ ?_
            rotate_left
            · intro w'
              go_simp
              with_reducible rfl
            rotate_left
            · simp only [Act.put, List.setIfInBounds_toArray, List.set_cons_zero, List.set_cons_succ, i64_w, i32_w]
              rfl
            refine pure_ (i := 6) (N := some 48) (v := ?_) (a' := ?_) #[true, true, true, false, false, true, true, false, false, false, false] rfl rfl (by kernel_rfl) (fun _ _ _ h => h) (Or.inl ⟨by rfl, ?_⟩) ?_ ?_
            rotate_left
            · intro w'
              go_simp
              with_reducible rfl
            rotate_left
            · simp only [Act.put, List.setIfInBounds_toArray, List.set_cons_zero, List.set_cons_succ, i64_w, i32_w]
              rfl
            refine pure_ (i := 7) (N := some 49) (v := ?_) (a' := ?_) #[true, true, true, false, false, true, true, true, false, false, false] rfl rfl (by kernel_rfl) (fun _ _ _ h => h) (Or.inl ⟨by rfl, ?_⟩) ?_ ?_
            rotate_left
            · intro w'
              go_simp
              with_reducible rfl
            rotate_left
            · simp only [Act.put, List.setIfInBounds_toArray, List.set_cons_zero, List.set_cons_succ, i64_w, i32_w]
              rfl
            refine take_ (i := 3) (N := some 45) (v := ?_) (a' := ?_) #[true, true, true, true, false, true, true, true, false, false, false] rfl rfl (by kernel_rfl) (fun _ _ _ h => h) (Or.inl ⟨by rfl, ?_⟩) hHeld ?_ ?_
            rotate_left
            · rintro w' ⟨s0, s1, s2, s3, s4⟩
              go_simp
              with_reducible rfl
            rotate_left
            · simp only [Act.put, List.setIfInBounds_toArray, List.set_cons_zero, List.set_cons_succ, i64_w, i32_w]
              rfl
            refine take_ (i := 8) (N := some 50) (v := ?_) (a' := ?_) #[true, true, true, true, false, true, true, true, true, false, false] rfl rfl (by kernel_rfl) (fun _ _ _ h => h) (Or.inl ⟨by rfl, ?_⟩) hHeld ?_ ?_
            rotate_left
            · rintro w' ⟨s0, s1, s2, s3, s4⟩
              go_simp
              with_reducible rfl
            rotate_left
            · simp only [Act.put, List.setIfInBounds_toArray, List.set_cons_zero, List.set_cons_succ, i64_w, i32_w]
              rfl
            refine one_ (i := 4) (N := some 46) #[true, true, true, true, true, true, true, true, true, false, false] rfl rfl (by kernel_rfl) (by decide) (fun K hK => ?_)
            refine goes_ Tryd.func97 (by kernel_rfl) rfl #[.pointer (some ⟨w.heap.size, 0, none⟩), .pointer (some ⟨w.heap.size + 1, 0, none⟩), .string s1] (by rfl) rfl rfl (by simp only [List.map_toArray, List.map_cons, List.map_nil]; rfl) ?_
            with_reducible refine ((price_as L hl P HF.out Q hq s1 (txt_size HT1.out) (txt_ok HT1.out) w.heap.size (w.heap.size + 1) w _ hHeld.2.2.1 hHeld.2.2.2.1 HP1.out)).mono ?_
            rintro e w3 ⟨rfl, hb⟩
            refine ⟨_, rfl, ?_⟩
            refine hK.out _ _ ⟨(cellB1 hHeld.1 hb), (cellB1 hHeld.2.1 hb), (hHeld.2.2.1.below hb), (blk_below hHeld.2.2.2.1 hb), (below_step hHeld.2.2.2.2 hb)⟩ (fun hHeld => ?_)
            clear hK K
            refine norm_ (a' := ?_) ?_ ?_
            rotate_left
            · show Act.put _ (some 46) _ = _
              simp only [Act.put, List.setIfInBounds_toArray, List.set_cons_zero, List.set_cons_succ, i64_w, i32_w]
              rfl
            refine one_ (i := 9) (N := some 51) #[true, true, true, true, true, true, true, true, true, true, false] rfl rfl (by kernel_rfl) (by decide) (fun K hK => ?_)
            refine goes_ Tryd.func97 (by kernel_rfl) rfl #[.pointer (some ⟨w.heap.size, 0, none⟩), .pointer (some ⟨w.heap.size + 1, 0, none⟩), .string s2] (by rfl) rfl rfl (by simp only [List.map_toArray, List.map_cons, List.map_nil]; rfl) ?_
            with_reducible refine ((price_as L hl P HF.out Q hq s2 (txt_size HT2.out) (txt_ok HT2.out) w.heap.size (w.heap.size + 1) w _ hHeld.2.2.1 hHeld.2.2.2.1 HP2.out)).mono ?_
            rintro e w3 ⟨rfl, hb⟩
            refine ⟨_, rfl, ?_⟩
            refine hK.out _ _ ⟨(cellB1 hHeld.1 hb), (cellB1 hHeld.2.1 hb), (hHeld.2.2.1.below hb), (blk_below hHeld.2.2.2.1 hb), (below_step hHeld.2.2.2.2 hb)⟩ (fun hHeld => ?_)
            clear hK K
            refine norm_ (a' := ?_) ?_ ?_
            rotate_left
            · show Act.put _ (some 51) _ = _
              simp only [Act.put, List.setIfInBounds_toArray, List.set_cons_zero, List.set_cons_succ, i64_w, i32_w]
              rfl
            refine pure_ (i := 10) (N := some 52) (v := ?_) (a' := ?_) #[true, true, true, true, true, true, true, true, true, true, true] rfl rfl (by kernel_rfl) (fun _ _ _ h => h) (Or.inl ⟨by rfl, ?_⟩) ?_ ?_
            rotate_left
            · intro w'
              go_simp
              with_reducible rfl
            rotate_left
            · simp only [Act.put, List.setIfInBounds_toArray, List.set_cons_zero, List.set_cons_succ, i64_w, i32_w]
              rfl
            refine done_ (by kernel_rfl) ?_
            go_wp2_with fail
            go_roundw
            case rel => exact ⟨n + 1, bn, by omega, by omega, by omega, by go_num, rfl, ⟨by rw [HS2.out, HP2.out]; exact HCy.out⟩, ⟨hHeld.2.2.1⟩, ⟨hHeld.2.2.2.1⟩, ⟨hHeld.2.2.2.2⟩⟩
            case measure => simp [intOf]; omega
        · have hltz : ¬ (n : Int) < (l.length : Int) := by omega
          have hcl := HCl.out
          rw [List.drop_eq_nil_of_le (by omega), cheapL] at hcl
          have HCx := Aside0.mk hcl
          clear hcl HCl hs2
          go_wp2_with fail
          refine (l06Price_calls L hl P HF.out Q hq s2 (txt_size HT2.out) (txt_ok HT2.out) w.heap.size (w.heap.size + 1) w _ HI1.out HJ1.out).mono ?_
          rintro e w6 ⟨rfl, hb⟩
          have HB6 := Aside0.mk (below_step HB1.out hb)
          clear hb HB1
          go_wp2_with fail
          go_ret3
          refine ⟨?_, HB6.out⟩
          have h1 := HCx.out
          simp only [Prod.mk.injEq] at h1
          rw [← h1.1, ← h1.2, HC0.out]
          rfl
open Go.RowKit Go.Proofs.YticjkfacdmmopaaDoor.Q Go.Proofs.YticjkfacdmmopaaDoor.Txt Go.Proofs.YticjkfacdmmopaaDoorW.PrintWords Go.Proofs.YticjkfacdmmopaaDoorW.PrintLast Go.Proofs.YticjkfacdmmopaaDoorW.PrintMore
def rngQ (Q : List Int) : Bool := Q.all fun n => inB n (-32768) 32767
theorem rngQ_of {Q : List Int} (h : rngQ Q = true) : ∀ y ∈ Q, -32768 ≤ y ∧ y ≤ 32767 := fun y hy => inB_iff.1 (List.all_eq_true.1 h y hy)
def impl_Prices_price.f (a0_0 a0_1 a0_2 a0_3 a0_4 a0_5 a0_6 a0_7 a0_8 a0_9 a0_10 a0_11 a0_12 a0_13 a0_14 a0_15 a0_16 a0_17 a0_18 a0_19 a0_20 a0_21 a0_22 a0_23 a0_24 a0_25 a0_26 a0_27 a0_28 : Int) (a1_0 a1_1 a1_2 a1_3 a1_4 a1_5 a1_6 a1_7 a1_8 a1_9 a1_10 a1_11 a1_12 a1_13 a1_14 a1_15 a1_16 a1_17 a1_18 a1_19 a1_20 a1_21 a1_22 a1_23 a1_24 a1_25 a1_26 a1_27 : Int) (l1_28 : List Pr) (a2 : ByteArray) : Option Int := if (rngB [a1_0, a1_1, a1_2, a1_3, a1_4, a1_5, a1_6, a1_7, a1_8, a1_9, a1_10, a1_11, a1_12, a1_13, a1_14, a1_15, a1_16, a1_17, a1_18, a1_19, a1_20, a1_21, a1_22, a1_23, a1_24, a1_25, a1_26, a1_27] l1_28 && askP [a1_0, a1_1, a1_2, a1_3, a1_4, a1_5, a1_6, a1_7, a1_8, a1_9, a1_10, a1_11, a1_12, a1_13, a1_14, a1_15, a1_16, a1_17, a1_18, a1_19, a1_20, a1_21, a1_22, a1_23, a1_24, a1_25, a1_26, a1_27] l1_28 [a0_0, a0_1, a0_2, a0_3, a0_4, a0_5, a0_6, a0_7, a0_8, a0_9, a0_10, a0_11, a0_12, a0_13, a0_14, a0_15, a0_16, a0_17, a0_18, a0_19, a0_20, a0_21, a0_22, a0_23, a0_24, a0_25, a0_26, a0_27, a0_28] a2) = true then some (priceT [a1_0, a1_1, a1_2, a1_3, a1_4, a1_5, a1_6, a1_7, a1_8, a1_9, a1_10, a1_11, a1_12, a1_13, a1_14, a1_15, a1_16, a1_17, a1_18, a1_19, a1_20, a1_21, a1_22, a1_23, a1_24, a1_25, a1_26, a1_27] [a0_0, a0_1, a0_2, a0_3, a0_4, a0_5, a0_6, a0_7, a0_8, a0_9, a0_10, a0_11, a0_12, a0_13, a0_14, a0_15, a0_16, a0_17, a0_18, a0_19, a0_20, a0_21, a0_22, a0_23, a0_24, a0_25, a0_26, a0_27, a0_28] a2.data.toList) else none
theorem impl_Prices_price.calls (a0_0 a0_1 a0_2 a0_3 a0_4 a0_5 a0_6 a0_7 a0_8 a0_9 a0_10 a0_11 a0_12 a0_13 a0_14 a0_15 a0_16 a0_17 a0_18 a0_19 a0_20 a0_21 a0_22 a0_23 a0_24 a0_25 a0_26 a0_27 a0_28 : Int) (a1_0 a1_1 a1_2 a1_3 a1_4 a1_5 a1_6 a1_7 a1_8 a1_9 a1_10 a1_11 a1_12 a1_13 a1_14 a1_15 a1_16 a1_17 a1_18 a1_19 a1_20 a1_21 a1_22 a1_23 a1_24 a1_25 a1_26 a1_27 : Int) (A1_28 : Option Addr) (c1_28 : Nat) (l1_28 : List Pr) (a2 : ByteArray) (r : Int) (w : World) (hr1_28 : Kd.C kPr w A1_28 l1_28.length l1_28) (hc1_28 : l1_28.length ≤ c1_28) (hG : GlobM w) (h : impl_Prices_price.f a0_0 a0_1 a0_2 a0_3 a0_4 a0_5 a0_6 a0_7 a0_8 a0_9 a0_10 a0_11 a0_12 a0_13 a0_14 a0_15 a0_16 a0_17 a0_18 a0_19 a0_20 a0_21 a0_22 a0_23 a0_24 a0_25 a0_26 a0_27 a0_28 a1_0 a1_1 a1_2 a1_3 a1_4 a1_5 a1_6 a1_7 a1_8 a1_9 a1_10 a1_11 a1_12 a1_13 a1_14 a1_15 a1_16 a1_17 a1_18 a1_19 a1_20 a1_21 a1_22 a1_23 a1_24 a1_25 a1_26 a1_27 l1_28 a2 = some r) :
    Calls Tryd.prog 100 #[.agg #[.int .i16 a0_0, .int .i16 a0_1, .int .i16 a0_2, .int .i16 a0_3, .int .i16 a0_4, .int .i16 a0_5, .int .i16 a0_6, .int .i16 a0_7, .int .i16 a0_8, .int .i16 a0_9, .int .i16 a0_10, .int .i16 a0_11, .int .i16 a0_12, .int .i16 a0_13, .int .i16 a0_14, .int .i16 a0_15, .int .i16 a0_16, .int .i16 a0_17, .int .i16 a0_18, .int .i16 a0_19, .int .i16 a0_20, .int .i16 a0_21, .int .i16 a0_22, .int .i16 a0_23, .int .i16 a0_24, .int .i16 a0_25, .int .i16 a0_26, .int .i16 a0_27, .int .i16 a0_28], .agg #[.int .i8 a1_0, .int .i8 a1_1, .int .i8 a1_2, .int .i8 a1_3, .int .i8 a1_4, .int .i8 a1_5, .int .i8 a1_6, .int .i8 a1_7, .int .i8 a1_8, .int .i8 a1_9, .int .i8 a1_10, .int .i8 a1_11, .int .i8 a1_12, .int .i8 a1_13, .int .i8 a1_14, .int .i8 a1_15, .int .i8 a1_16, .int .i8 a1_17, .int .i8 a1_18, .int .i8 a1_19, .int .i8 a1_20, .int .i8 a1_21, .int .i8 a1_22, .int .i8 a1_23, .int .i8 a1_24, .int .i8 a1_25, .int .i8 a1_26, .int .i8 a1_27, .slice A1_28 l1_28.length c1_28], .string a2] w fun e w' => e = .returned (.int .i64 r) ∧ Below w.heap.size w w' := by
  unfold impl_Prices_price.f at h
  split at h
  · rename_i hb
    obtain rfl := Option.some.inj h
    rw [Bool.and_eq_true] at hb
    obtain ⟨h1, h2, h3⟩ := askP_iff hb.2
    exact price_calls [a0_0, a0_1, a0_2, a0_3, a0_4, a0_5, a0_6, a0_7, a0_8, a0_9, a0_10, a0_11, a0_12, a0_13, a0_14, a0_15, a0_16, a0_17, a0_18, a0_19, a0_20, a0_21, a0_22, a0_23, a0_24, a0_25, a0_26, a0_27, a0_28] rfl [a1_0, a1_1, a1_2, a1_3, a1_4, a1_5, a1_6, a1_7, a1_8, a1_9, a1_10, a1_11, a1_12, a1_13, a1_14, a1_15, a1_16, a1_17, a1_18, a1_19, a1_20, a1_21, a1_22, a1_23, a1_24, a1_25, a1_26, a1_27] rfl A1_28 c1_28 l1_28 (faceOk rfl hb.1 h1) hc1_28 a2 (txt_size h3) (txt_ok h3) w hr1_28 hG
  · cases h
def laws_toPrices.f (a0_0 a0_1 a0_2 a0_3 a0_4 a0_5 a0_6 a0_7 a0_8 a0_9 a0_10 a0_11 a0_12 a0_13 a0_14 a0_15 a0_16 a0_17 a0_18 a0_19 a0_20 a0_21 a0_22 a0_23 a0_24 a0_25 a0_26 a0_27 a0_28 : Int) : Option (Int × Int × Int × Int × Int × Int × Int × Int × Int × Int × Int × Int × Int × Int × Int × Int × Int × Int × Int × Int × Int × Int × Int × Int × Int × Int × Int × Int × Int) := some (a0_0, a0_1, a0_2, a0_3, a0_4, a0_5, a0_6, a0_7, a0_8, a0_9, a0_10, a0_11, a0_12, a0_13, a0_14, a0_15, a0_16, a0_17, a0_18, a0_19, a0_20, a0_21, a0_22, a0_23, a0_24, a0_25, a0_26, a0_27, a0_28)
theorem laws_toPrices.calls (a0_0 a0_1 a0_2 a0_3 a0_4 a0_5 a0_6 a0_7 a0_8 a0_9 a0_10 a0_11 a0_12 a0_13 a0_14 a0_15 a0_16 a0_17 a0_18 a0_19 a0_20 a0_21 a0_22 a0_23 a0_24 a0_25 a0_26 a0_27 a0_28 : Int) (r1 r2 r3 r4 r5 r6 r7 r8 r9 r10 r11 r12 r13 r14 r15 r16 r17 r18 r19 r20 r21 r22 r23 r24 r25 r26 r27 r28 r29 : Int) (w : World) (h : laws_toPrices.f a0_0 a0_1 a0_2 a0_3 a0_4 a0_5 a0_6 a0_7 a0_8 a0_9 a0_10 a0_11 a0_12 a0_13 a0_14 a0_15 a0_16 a0_17 a0_18 a0_19 a0_20 a0_21 a0_22 a0_23 a0_24 a0_25 a0_26 a0_27 a0_28 = some (r1, r2, r3, r4, r5, r6, r7, r8, r9, r10, r11, r12, r13, r14, r15, r16, r17, r18, r19, r20, r21, r22, r23, r24, r25, r26, r27, r28, r29)) :
    Calls Tryd.prog 48 #[.agg #[.int .i16 a0_0, .int .i16 a0_1, .int .i16 a0_2, .int .i16 a0_3, .int .i16 a0_4, .int .i16 a0_5, .int .i16 a0_6, .int .i16 a0_7, .int .i16 a0_8, .int .i16 a0_9, .int .i16 a0_10, .int .i16 a0_11, .int .i16 a0_12, .int .i16 a0_13, .int .i16 a0_14, .int .i16 a0_15, .int .i16 a0_16, .int .i16 a0_17, .int .i16 a0_18, .int .i16 a0_19, .int .i16 a0_20, .int .i16 a0_21, .int .i16 a0_22, .int .i16 a0_23, .int .i16 a0_24, .int .i16 a0_25, .int .i16 a0_26, .int .i16 a0_27, .int .i16 a0_28]] w fun e w' => e = .returned (.agg #[.int .i16 r1, .int .i16 r2, .int .i16 r3, .int .i16 r4, .int .i16 r5, .int .i16 r6, .int .i16 r7, .int .i16 r8, .int .i16 r9, .int .i16 r10, .int .i16 r11, .int .i16 r12, .int .i16 r13, .int .i16 r14, .int .i16 r15, .int .i16 r16, .int .i16 r17, .int .i16 r18, .int .i16 r19, .int .i16 r20, .int .i16 r21, .int .i16 r22, .int .i16 r23, .int .i16 r24, .int .i16 r25, .int .i16 r26, .int .i16 r27, .int .i16 r28, .int .i16 r29]) ∧ Below w.heap.size w w' := by
  unfold laws_toPrices.f at h
  simp only [Option.some.injEq, Prod.mk.injEq] at h
  obtain ⟨rfl, rfl, rfl, rfl, rfl, rfl, rfl, rfl, rfl, rfl, rfl, rfl, rfl, rfl, rfl, rfl, rfl, rfl, rfl, rfl, rfl, rfl, rfl, rfl, rfl, rfl, rfl, rfl, rfl⟩ := h
  exact toPrices_calls [a0_0, a0_1, a0_2, a0_3, a0_4, a0_5, a0_6, a0_7, a0_8, a0_9, a0_10, a0_11, a0_12, a0_13, a0_14, a0_15, a0_16, a0_17, a0_18, a0_19, a0_20, a0_21, a0_22, a0_23, a0_24, a0_25, a0_26, a0_27, a0_28] rfl w
def spec_CheapestOf.f (a0_0 a0_1 a0_2 a0_3 a0_4 a0_5 a0_6 a0_7 a0_8 a0_9 a0_10 a0_11 a0_12 a0_13 a0_14 a0_15 a0_16 a0_17 a0_18 a0_19 a0_20 a0_21 a0_22 a0_23 a0_24 a0_25 a0_26 a0_27 : Int) (l0_28 : List Pr) (a1_0 a1_1 a1_2 a1_3 a1_4 a1_5 a1_6 a1_7 a1_8 a1_9 a1_10 a1_11 a1_12 a1_13 a1_14 a1_15 a1_16 a1_17 a1_18 a1_19 a1_20 a1_21 a1_22 a1_23 a1_24 a1_25 a1_26 a1_27 a1_28 : Int) (l2 : List ByteArray) : Option (Int × Int × Int) := if (rngB [a0_0, a0_1, a0_2, a0_3, a0_4, a0_5, a0_6, a0_7, a0_8, a0_9, a0_10, a0_11, a0_12, a0_13, a0_14, a0_15, a0_16, a0_17, a0_18, a0_19, a0_20, a0_21, a0_22, a0_23, a0_24, a0_25, a0_26, a0_27] l0_28 && rngQ [a1_0, a1_1, a1_2, a1_3, a1_4, a1_5, a1_6, a1_7, a1_8, a1_9, a1_10, a1_11, a1_12, a1_13, a1_14, a1_15, a1_16, a1_17, a1_18, a1_19, a1_20, a1_21, a1_22, a1_23, a1_24, a1_25, a1_26, a1_27, a1_28]) = true ∧ l2.length ≤ 1048576 ∧ (l2.all fun s => decide (s.size ≤ 1048576)) = true then some (cheapC [a0_0, a0_1, a0_2, a0_3, a0_4, a0_5, a0_6, a0_7, a0_8, a0_9, a0_10, a0_11, a0_12, a0_13, a0_14, a0_15, a0_16, a0_17, a0_18, a0_19, a0_20, a0_21, a0_22, a0_23, a0_24, a0_25, a0_26, a0_27] l0_28 [a1_0, a1_1, a1_2, a1_3, a1_4, a1_5, a1_6, a1_7, a1_8, a1_9, a1_10, a1_11, a1_12, a1_13, a1_14, a1_15, a1_16, a1_17, a1_18, a1_19, a1_20, a1_21, a1_22, a1_23, a1_24, a1_25, a1_26, a1_27, a1_28] l2) else none
theorem spec_CheapestOf.calls (a0_0 a0_1 a0_2 a0_3 a0_4 a0_5 a0_6 a0_7 a0_8 a0_9 a0_10 a0_11 a0_12 a0_13 a0_14 a0_15 a0_16 a0_17 a0_18 a0_19 a0_20 a0_21 a0_22 a0_23 a0_24 a0_25 a0_26 a0_27 : Int) (A0_28 : Option Addr) (c0_28 : Nat) (l0_28 : List Pr) (a1_0 a1_1 a1_2 a1_3 a1_4 a1_5 a1_6 a1_7 a1_8 a1_9 a1_10 a1_11 a1_12 a1_13 a1_14 a1_15 a1_16 a1_17 a1_18 a1_19 a1_20 a1_21 a1_22 a1_23 a1_24 a1_25 a1_26 a1_27 a1_28 : Int) (A2 : Option Addr) (c2 : Nat) (l2 : List ByteArray) (r1 r2 r3 : Int) (w : World) (hr0_28 : Kd.C kPr w A0_28 l0_28.length l0_28) (hc0_28 : l0_28.length ≤ c0_28) (hr2 : Kd.C Kd.string w A2 l2.length l2) (hc2 : l2.length ≤ c2) (h : spec_CheapestOf.f a0_0 a0_1 a0_2 a0_3 a0_4 a0_5 a0_6 a0_7 a0_8 a0_9 a0_10 a0_11 a0_12 a0_13 a0_14 a0_15 a0_16 a0_17 a0_18 a0_19 a0_20 a0_21 a0_22 a0_23 a0_24 a0_25 a0_26 a0_27 l0_28 a1_0 a1_1 a1_2 a1_3 a1_4 a1_5 a1_6 a1_7 a1_8 a1_9 a1_10 a1_11 a1_12 a1_13 a1_14 a1_15 a1_16 a1_17 a1_18 a1_19 a1_20 a1_21 a1_22 a1_23 a1_24 a1_25 a1_26 a1_27 a1_28 l2 = some (r1, r2, r3)) :
    Calls Tryd.prog 55 #[.agg #[.int .i8 a0_0, .int .i8 a0_1, .int .i8 a0_2, .int .i8 a0_3, .int .i8 a0_4, .int .i8 a0_5, .int .i8 a0_6, .int .i8 a0_7, .int .i8 a0_8, .int .i8 a0_9, .int .i8 a0_10, .int .i8 a0_11, .int .i8 a0_12, .int .i8 a0_13, .int .i8 a0_14, .int .i8 a0_15, .int .i8 a0_16, .int .i8 a0_17, .int .i8 a0_18, .int .i8 a0_19, .int .i8 a0_20, .int .i8 a0_21, .int .i8 a0_22, .int .i8 a0_23, .int .i8 a0_24, .int .i8 a0_25, .int .i8 a0_26, .int .i8 a0_27, .slice A0_28 l0_28.length c0_28], .agg #[.int .i16 a1_0, .int .i16 a1_1, .int .i16 a1_2, .int .i16 a1_3, .int .i16 a1_4, .int .i16 a1_5, .int .i16 a1_6, .int .i16 a1_7, .int .i16 a1_8, .int .i16 a1_9, .int .i16 a1_10, .int .i16 a1_11, .int .i16 a1_12, .int .i16 a1_13, .int .i16 a1_14, .int .i16 a1_15, .int .i16 a1_16, .int .i16 a1_17, .int .i16 a1_18, .int .i16 a1_19, .int .i16 a1_20, .int .i16 a1_21, .int .i16 a1_22, .int .i16 a1_23, .int .i16 a1_24, .int .i16 a1_25, .int .i16 a1_26, .int .i16 a1_27, .int .i16 a1_28], .slice A2 l2.length c2] w fun e w' => e = .returned (.tuple #[.int .i64 r1, .int .i64 r2, .int .i64 r3]) ∧ Below w.heap.size w w' := by
  unfold spec_CheapestOf.f at h
  split at h
  · rename_i hb
    have h2 := Option.some.inj h
    rw [Bool.and_eq_true] at hb
    have := specCheap_calls [a0_0, a0_1, a0_2, a0_3, a0_4, a0_5, a0_6, a0_7, a0_8, a0_9, a0_10, a0_11, a0_12, a0_13, a0_14, a0_15, a0_16, a0_17, a0_18, a0_19, a0_20, a0_21, a0_22, a0_23, a0_24, a0_25, a0_26, a0_27] rfl A0_28 c0_28 l0_28 hb.1.1 [a1_0, a1_1, a1_2, a1_3, a1_4, a1_5, a1_6, a1_7, a1_8, a1_9, a1_10, a1_11, a1_12, a1_13, a1_14, a1_15, a1_16, a1_17, a1_18, a1_19, a1_20, a1_21, a1_22, a1_23, a1_24, a1_25, a1_26, a1_27, a1_28] rfl (rngQ_of hb.1.2) A2 c2 l2 (fun s hs => by simpa using List.all_eq_true.1 hb.2.2 s hs) hb.2.1 w hr0_28 hr2 hc2
    rw [h2] at this
    exact this
  · cases h
theorem pred_priceCode (w : World) (hG : GlobM w) : PrediS 139 #[] (fun s => !txt s.data.toList) w := by
  intro W x hb
  have HG := Aside0.mk (hG.below hb)
  clear hG
  go_enter Tryd.func139, Tryd.ntmps139
  go_wp2_with fail
  refine (impl_ValidText.calls 100 x _ _ HG.out (Pure.valid_eq x (.inr (by omega)))).mono ?_
  rintro e w' ⟨rfl, hb'⟩
  go_wp2_with fail
  go_ret
  exact ⟨rfl, by first | exact below_step hb hb' | exact hb'⟩
def slices_ContainsFunc_string_string_at_impl_priceCode_1.f (l0 : List ByteArray) (a1 : Unit) : Option Bool := some (l0.any fun s => !txt s.data.toList)
theorem slices_ContainsFunc_string_string_at_impl_priceCode_1.calls (A0 : Option Addr) (c0 : Nat) (l0 : List ByteArray) (a1 : Unit) (r : Bool) (w : World) (hr0 : Kd.C Kd.string w A0 l0.length l0) (hc0 : l0.length ≤ c0) (hG : GlobM w) (h : slices_ContainsFunc_string_string_at_impl_priceCode_1.f l0 a1 = some r) :
    Calls Tryd.prog 110 #[.slice A0 l0.length c0, .func (.func 139) #[] #[]] w fun e w' => e = .returned (.bool r) ∧ Below w.heap.size w w' := by
  obtain rfl := Option.some.inj h
  exact containsFunc_str _ _ _ (enters_of Tryd.func139 (by kernel_rfl) rfl) A0 c0 l0 w (pred_priceCode w hG) hr0
theorem wpList_load_rowG {P : Program} {ops : Array Oper} {rest : List Oper} {o : Oper} {a : Act} {w : World} {Q : Exit → Act → World → Prop} (hw : Region.wanted o (yielded ops a.tmps) = true) (ty : TypeId) (x : Operand) (ho : o.op = .load ty x)
    (g : Nat) (hx : a.eval x = .pointer (some ⟨g, 0, none⟩)) (t : TypeId) (cs : Array Value) (fr : Nat × Nat) (d : TypeDesc) (hg : w.heap[g]? = some (.cells cs t fr))
    (hu : P.underlying ty = some d) (hd : (match d with | .struct _ | .array _ _ => true | _ => false) = true) (hi : (P.info? ty).map (·.size) = some cs.size)
    (h : wpList P ops Q rest (a.put o.dst (.agg cs)) w) : wpList P ops Q (o :: rest) a w :=
  wpList_step fun _ hK => by rw [if_pos hw]; exact wp_load_row ty x ho g hx t cs fr d hg hu hd hi (hK _ _ h)
theorem validFaceA (L : List Int) (hl : L.length = 28) (A : Option Addr) (c : Nat) (P : List Pr) (hr : rngB L P = true) (w : World) (hC : Kd.C kPr w A P.length P) (hc : P.length ≤ c) :
    Calls Tryd.prog 68 #[.agg (faceV L A P.length c)] w fun e w' => e = .returned (.bool (faceB L P)) ∧ Below w.heap.size w w' := by
  rw [faceV_all L hl A P.length c]
  exact impl_ValidFace.calls (rd L 0) (rd L 1) (rd L 2) (rd L 3) (rd L 4) (rd L 5) (rd L 6) (rd L 7) (rd L 8) (rd L 9) (rd L 10) (rd L 11) (rd L 12) (rd L 13) (rd L 14) (rd L 15) (rd L 16) (rd L 17) (rd L 18) (rd L 19) (rd L 20) (rd L 21) (rd L 22) (rd L 23) (rd L 24) (rd L 25) (rd L 26) (rd L 27) A c P (faceB L P) w hC hc (validFace_eq hl hr)
set_option maxHeartbeats 2000000 in
theorem priceCode_calls (L : List Int) (hl : L.length = 28) (A : Option Addr) (c : Nat) (P : List Pr) (hr : rngB L P = true) (Q : List Int) (hq : Q.length = 29) (hw : ∀ y ∈ Q, -32768 ≤ y ∧ y ≤ 32767) (A2 : Option Addr) (c2 : Nat) (l : List ByteArray) (w : World) (hC : Kd.C kPr w A P.length P) (hc : P.length ≤ c) (hC2 : Kd.C Kd.string w A2 l.length l) (hc2 : l.length ≤ c2) (hG : GlobM w) :
    Calls Tryd.prog 99 #[.agg (faceV L A P.length c), .agg (cellsK .i16 Q), .slice A2 l.length c2] w fun e w' => e = .returned (.int .i64 (if (faceB L P && (pricesB Q && l.all fun s => txt s.data.toList)) = true then 0 else 1)) ∧ Below w.heap.size w w' := by
  obtain ⟨q, hqe⟩ : ∃ q : Int, (if (faceB L P && (pricesB Q && l.all fun s => txt s.data.toList)) = true then 0 else 1) = q := ⟨_, rfl⟩
  rw [hqe]
  have HQ := Aside0.mk hqe
  have B0 := Aside0.mk (blk_alloc (blk_new w (.cells (faceV L A P.length c) 32)) (.cells (cellsK .i16 Q) 62))
  have B1 := Aside0.mk (blk_at (W := w.alloc (.cells (faceV L A P.length c) 32)) (n := w.heap.size + 1) (by simp) (.cells (cellsK .i16 Q) 62))
  have HB := Aside0.mk (below_alloc (below_alloc (Below.refl w.heap.size w) (.cells (faceV L A P.length c) 32)) (.cells (cellsK .i16 Q) 62))
  have HSZ : Aside0 ((Tryd.prog.info? 32).map (·.size) = some (faceV L A P.length c).size) := ⟨by rw [faceV_size, hl]; exact info_faceP⟩
  have HSQ : Aside0 ((Tryd.prog.info? 62).map (·.size) = some (cellsK .i16 Q).size) := ⟨by rw [cellsK_size, hq]; exact info_Prices⟩
  have HR := Aside0.mk hr
  have HC := Aside0.mk hC
  have HCc := Aside0.mk hc
  have HC2 := Aside0.mk hC2
  have HCc2 := Aside0.mk hc2
  have HG := Aside0.mk hG
  have HW := Aside0.mk hw
  clear hr hC hc hC2 hc2 hG hw hqe
  go_enter Tryd.func99, Tryd.ntmps99
  go_wp2_with (first | ((with_reducible refine gate_dst (N := 7) rfl ?_); refine wpList_load_row rfl 32 (.tmp 3) rfl w.heap.size rfl 32 (faceV L A P.length c) (0, 0) _ B0.out Tryd.underlying32 rfl HSZ.out ?_) | fail)
  refine (validFaceA L hl A c P HR.out _ (Kd.C_below HC.out HB.out) HCc.out).mono ?_
  rintro e w1 ⟨rfl, hb⟩
  replace B1 := Aside0.mk (blk_below B1.out hb)
  replace HB := Aside0.mk (below_step HB.out hb)
  clear hb B0
  cases hf : faceB L P
  · go_wp2_with fail
    refine (impl_unless.calls false 1 1 _ rfl).mono ?_
    rintro e w2 ⟨rfl, hb⟩
    go_wp2_with fail
    go_ret
    exact ⟨by rw [← HQ.out, hf]; rfl, by first | exact below_step HB.out hb | exact below_step HB.out hb.below⟩
  go_wp2_with (first | ((with_reducible refine gate_dst (N := 10) rfl ?_); refine wpList_load_rowG (by rfl) 62 (.tmp 4) rfl (w.heap.size + 1) rfl 62 (cellsK .i16 Q) (0, 0) _ B1.out Tryd.underlying62 rfl HSQ.out ?_) | fail)
  refine (implValidPrices_calls Q hq HW.out _).mono ?_
  rintro e w2 ⟨rfl, hb⟩
  replace HB := Aside0.mk (below_step HB.out hb)
  clear hb B1
  cases hg : pricesB Q
  · go_wp2_with fail
    refine (impl_unless.calls false 1 1 _ rfl).mono ?_
    rintro e w3 ⟨rfl, hb⟩
    go_wp2_with fail
    go_ret
    exact ⟨by rw [← HQ.out, hf, hg]; rfl, by first | exact below_step HB.out hb | exact below_step HB.out hb.below⟩
  go_wp2_with fail
  refine (slices_ContainsFunc_string_string_at_impl_priceCode_1.calls A2 c2 l () _ _ (Kd.C_below HC2.out HB.out) HCc2.out (HG.out.below HB.out) rfl).mono ?_
  rintro e w3 ⟨rfl, hb⟩
  replace HB := Aside0.mk (below_step HB.out hb)
  clear hb
  have h1 : (!(l.any fun s => !txt s.data.toList)) = l.all fun s => txt s.data.toList := by rw [Bool.eq_iff_iff]; simp
  obtain ⟨b, hb⟩ : ∃ b, (l.any fun s => !txt s.data.toList) = b := ⟨_, rfl⟩
  rw [hb] at h1 ⊢
  have HQ2 : Aside0 (q = if (!b) = true then 0 else 1) := ⟨by rw [← HQ.out, hf, hg, Bool.true_and, Bool.true_and, h1]⟩
  clear hb h1 hf hg HQ
  cases b
  · go_wp2_with fail
    refine (impl_unless.calls true 1 0 _ rfl).mono ?_
    rintro e w4 ⟨rfl, hb⟩
    go_wp2_with fail
    go_ret
    exact ⟨by rw [HQ2.out]; rfl, by first | exact below_step HB.out hb | exact below_step HB.out hb.below⟩
  · go_wp2_with fail
    refine (impl_unless.calls false 1 1 _ rfl).mono ?_
    rintro e w4 ⟨rfl, hb⟩
    go_wp2_with fail
    go_ret
    exact ⟨by rw [HQ2.out]; rfl, by first | exact below_step HB.out hb | exact below_step HB.out hb.below⟩
def impl_priceCode.f (a0_0 a0_1 a0_2 a0_3 a0_4 a0_5 a0_6 a0_7 a0_8 a0_9 a0_10 a0_11 a0_12 a0_13 a0_14 a0_15 a0_16 a0_17 a0_18 a0_19 a0_20 a0_21 a0_22 a0_23 a0_24 a0_25 a0_26 a0_27 : Int) (l0_28 : List Pr) (a1_0 a1_1 a1_2 a1_3 a1_4 a1_5 a1_6 a1_7 a1_8 a1_9 a1_10 a1_11 a1_12 a1_13 a1_14 a1_15 a1_16 a1_17 a1_18 a1_19 a1_20 a1_21 a1_22 a1_23 a1_24 a1_25 a1_26 a1_27 a1_28 : Int) (l2 : List ByteArray) : Option Int := if (rngB [a0_0, a0_1, a0_2, a0_3, a0_4, a0_5, a0_6, a0_7, a0_8, a0_9, a0_10, a0_11, a0_12, a0_13, a0_14, a0_15, a0_16, a0_17, a0_18, a0_19, a0_20, a0_21, a0_22, a0_23, a0_24, a0_25, a0_26, a0_27] l0_28 && rngQ [a1_0, a1_1, a1_2, a1_3, a1_4, a1_5, a1_6, a1_7, a1_8, a1_9, a1_10, a1_11, a1_12, a1_13, a1_14, a1_15, a1_16, a1_17, a1_18, a1_19, a1_20, a1_21, a1_22, a1_23, a1_24, a1_25, a1_26, a1_27, a1_28]) = true then some (if (faceB [a0_0, a0_1, a0_2, a0_3, a0_4, a0_5, a0_6, a0_7, a0_8, a0_9, a0_10, a0_11, a0_12, a0_13, a0_14, a0_15, a0_16, a0_17, a0_18, a0_19, a0_20, a0_21, a0_22, a0_23, a0_24, a0_25, a0_26, a0_27] l0_28 && (pricesB [a1_0, a1_1, a1_2, a1_3, a1_4, a1_5, a1_6, a1_7, a1_8, a1_9, a1_10, a1_11, a1_12, a1_13, a1_14, a1_15, a1_16, a1_17, a1_18, a1_19, a1_20, a1_21, a1_22, a1_23, a1_24, a1_25, a1_26, a1_27, a1_28] && l2.all fun s => txt s.data.toList)) = true then 0 else 1) else none
theorem impl_priceCode.calls (a0_0 a0_1 a0_2 a0_3 a0_4 a0_5 a0_6 a0_7 a0_8 a0_9 a0_10 a0_11 a0_12 a0_13 a0_14 a0_15 a0_16 a0_17 a0_18 a0_19 a0_20 a0_21 a0_22 a0_23 a0_24 a0_25 a0_26 a0_27 : Int) (A0_28 : Option Addr) (c0_28 : Nat) (l0_28 : List Pr) (a1_0 a1_1 a1_2 a1_3 a1_4 a1_5 a1_6 a1_7 a1_8 a1_9 a1_10 a1_11 a1_12 a1_13 a1_14 a1_15 a1_16 a1_17 a1_18 a1_19 a1_20 a1_21 a1_22 a1_23 a1_24 a1_25 a1_26 a1_27 a1_28 : Int) (A2 : Option Addr) (c2 : Nat) (l2 : List ByteArray) (r : Int) (w : World) (hr0_28 : Kd.C kPr w A0_28 l0_28.length l0_28) (hc0_28 : l0_28.length ≤ c0_28) (hr2 : Kd.C Kd.string w A2 l2.length l2) (hc2 : l2.length ≤ c2) (hG : GlobM w) (h : impl_priceCode.f a0_0 a0_1 a0_2 a0_3 a0_4 a0_5 a0_6 a0_7 a0_8 a0_9 a0_10 a0_11 a0_12 a0_13 a0_14 a0_15 a0_16 a0_17 a0_18 a0_19 a0_20 a0_21 a0_22 a0_23 a0_24 a0_25 a0_26 a0_27 l0_28 a1_0 a1_1 a1_2 a1_3 a1_4 a1_5 a1_6 a1_7 a1_8 a1_9 a1_10 a1_11 a1_12 a1_13 a1_14 a1_15 a1_16 a1_17 a1_18 a1_19 a1_20 a1_21 a1_22 a1_23 a1_24 a1_25 a1_26 a1_27 a1_28 l2 = some r) :
    Calls Tryd.prog 99 #[.agg #[.int .i8 a0_0, .int .i8 a0_1, .int .i8 a0_2, .int .i8 a0_3, .int .i8 a0_4, .int .i8 a0_5, .int .i8 a0_6, .int .i8 a0_7, .int .i8 a0_8, .int .i8 a0_9, .int .i8 a0_10, .int .i8 a0_11, .int .i8 a0_12, .int .i8 a0_13, .int .i8 a0_14, .int .i8 a0_15, .int .i8 a0_16, .int .i8 a0_17, .int .i8 a0_18, .int .i8 a0_19, .int .i8 a0_20, .int .i8 a0_21, .int .i8 a0_22, .int .i8 a0_23, .int .i8 a0_24, .int .i8 a0_25, .int .i8 a0_26, .int .i8 a0_27, .slice A0_28 l0_28.length c0_28], .agg #[.int .i16 a1_0, .int .i16 a1_1, .int .i16 a1_2, .int .i16 a1_3, .int .i16 a1_4, .int .i16 a1_5, .int .i16 a1_6, .int .i16 a1_7, .int .i16 a1_8, .int .i16 a1_9, .int .i16 a1_10, .int .i16 a1_11, .int .i16 a1_12, .int .i16 a1_13, .int .i16 a1_14, .int .i16 a1_15, .int .i16 a1_16, .int .i16 a1_17, .int .i16 a1_18, .int .i16 a1_19, .int .i16 a1_20, .int .i16 a1_21, .int .i16 a1_22, .int .i16 a1_23, .int .i16 a1_24, .int .i16 a1_25, .int .i16 a1_26, .int .i16 a1_27, .int .i16 a1_28], .slice A2 l2.length c2] w fun e w' => e = .returned (.int .i64 r) ∧ Below w.heap.size w w' := by
  unfold impl_priceCode.f at h
  split at h
  · rename_i hb
    obtain rfl := Option.some.inj h
    rw [Bool.and_eq_true] at hb
    exact priceCode_calls [a0_0, a0_1, a0_2, a0_3, a0_4, a0_5, a0_6, a0_7, a0_8, a0_9, a0_10, a0_11, a0_12, a0_13, a0_14, a0_15, a0_16, a0_17, a0_18, a0_19, a0_20, a0_21, a0_22, a0_23, a0_24, a0_25, a0_26, a0_27] rfl A0_28 c0_28 l0_28 hb.1 [a1_0, a1_1, a1_2, a1_3, a1_4, a1_5, a1_6, a1_7, a1_8, a1_9, a1_10, a1_11, a1_12, a1_13, a1_14, a1_15, a1_16, a1_17, a1_18, a1_19, a1_20, a1_21, a1_22, a1_23, a1_24, a1_25, a1_26, a1_27, a1_28] rfl (rngQ_of hb.2) A2 c2 l2 w hr0_28 hc0_28 hr2 hc2 hG
  · cases h
end Go.Proofs.YticjkfacdmmopaaDoor.Ext
namespace Go.Proofs.YticjkfacdmmopaaDoor.Q
open Go.Proofs.YticjkfacdmmopaaDoor.Ext
open Go.RowKit Go.Proofs.YticjkfacdmmopaaDoorW.PrintWords Go.Proofs.YticjkfacdmmopaaDoorW.PrintLast Go.Proofs.YticjkfacdmmopaaDoorW.PrintMore
attribute [local go_sem] max2_int min2_int max_two min_two max_three min_three max_four min_four
set_option linter.unusedVariables false
set_option linter.unusedSimpArgs false
end Go.Proofs.YticjkfacdmmopaaDoor.Q
namespace Go.Proofs.YticjkfacdmmopaaDoor.Ext
end Go.Proofs.YticjkfacdmmopaaDoor.Ext
namespace Go.Proofs.YticjkfacdmmopaaDoor.Q
open Go.Proofs.YticjkfacdmmopaaDoor.Ext
open Go.RowKit Go.Proofs.YticjkfacdmmopaaDoorW.PrintWords Go.Proofs.YticjkfacdmmopaaDoorW.PrintLast Go.Proofs.YticjkfacdmmopaaDoorW.PrintMore
attribute [local go_sem] max2_int min2_int max_two min_two max_three min_three max_four min_four
set_option linter.unusedVariables false
set_option linter.unusedSimpArgs false
end Go.Proofs.YticjkfacdmmopaaDoor.Q
namespace Go.Proofs.YticjkfacdmmopaaDoor.Pure
open Go.RowKit Go.Proofs.YticjkfacdmmopaaDoor.Ext Go.Proofs.YticjkfacdmmopaaDoor.Q Go.Proofs.YticjkfacdmmopaaDoor.Txt Go.Proofs.YticjkfacdmmopaaDoor.Face Go.Proofs.YticjkfacdmmopaaDoorW.PrintWords Go.Proofs.YticjkfacdmmopaaDoorW.PrintLast Go.Proofs.YticjkfacdmmopaaDoorW.PrintMore
set_option linter.unusedVariables false
set_option linter.unusedSimpArgs false
set_option maxRecDepth 100000
theorem rngQ_to {Q : List Int} (h : ∀ y ∈ Q, -32768 ≤ y ∧ y ≤ 32767) : rngQ Q = true := List.all_eq_true.2 fun y hy => inB_iff.2 (h y hy)
theorem priceCode_eq {L : List Int} {P : List Pr} (hl : L.length = 28) (hr : rngB L P = true) (Q : List Int) (hq : Q.length = 29) (hw : rngQ Q = true) (l : List ByteArray) : impl_priceCode.f (rd L 0) (rd L 1) (rd L 2) (rd L 3) (rd L 4) (rd L 5) (rd L 6) (rd L 7) (rd L 8) (rd L 9) (rd L 10) (rd L 11) (rd L 12) (rd L 13) (rd L 14) (rd L 15) (rd L 16) (rd L 17) (rd L 18) (rd L 19) (rd L 20) (rd L 21) (rd L 22) (rd L 23) (rd L 24) (rd L 25) (rd L 26) (rd L 27) P (rd Q 0) (rd Q 1) (rd Q 2) (rd Q 3) (rd Q 4) (rd Q 5) (rd Q 6) (rd Q 7) (rd Q 8) (rd Q 9) (rd Q 10) (rd Q 11) (rd Q 12) (rd Q 13) (rd Q 14) (rd Q 15) (rd Q 16) (rd Q 17) (rd Q 18) (rd Q 19) (rd Q 20) (rd Q 21) (rd Q 22) (rd Q 23) (rd Q 24) (rd Q 25) (rd Q 26) (rd Q 27) (rd Q 28) l = some (if (faceB L P && (pricesB Q && l.all fun s => txt s.data.toList)) = true then 0 else 1) := by
  unfold impl_priceCode.f
  rw [all28 L hl, all29 Q hq, hr, hw]
  rfl
theorem iprice_eq {L : List Int} {P : List Pr} (hl : L.length = 28) (hr : rngB L P = true) (Q : List Int) (hq : Q.length = 29) (s : ByteArray) (h : askP L P Q s = true) : impl_Prices_price.f (rd Q 0) (rd Q 1) (rd Q 2) (rd Q 3) (rd Q 4) (rd Q 5) (rd Q 6) (rd Q 7) (rd Q 8) (rd Q 9) (rd Q 10) (rd Q 11) (rd Q 12) (rd Q 13) (rd Q 14) (rd Q 15) (rd Q 16) (rd Q 17) (rd Q 18) (rd Q 19) (rd Q 20) (rd Q 21) (rd Q 22) (rd Q 23) (rd Q 24) (rd Q 25) (rd Q 26) (rd Q 27) (rd Q 28) (rd L 0) (rd L 1) (rd L 2) (rd L 3) (rd L 4) (rd L 5) (rd L 6) (rd L 7) (rd L 8) (rd L 9) (rd L 10) (rd L 11) (rd L 12) (rd L 13) (rd L 14) (rd L 15) (rd L 16) (rd L 17) (rd L 18) (rd L 19) (rd L 20) (rd L 21) (rd L 22) (rd L 23) (rd L 24) (rd L 25) (rd L 26) (rd L 27) P s = some (priceT L Q s.data.toList) := by
  unfold impl_Prices_price.f
  rw [all28 L hl, all29 Q hq, hr, h]
  rfl
end Go.Proofs.YticjkfacdmmopaaDoor.Pure
