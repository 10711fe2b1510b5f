/- Contracts and plain laws of functions of the given program; no conditions beside those in the theorems. -/
import Derived.Deep.DeepCutAuto
import Derived.Test.YtfnhjoemmiepiaaDoorC1LeastTime
import Derived.Test.YtfnhjoemmiepiaaDoorC4LeastTime
import Derived.Test.YtfnhjoemmiepiaaDoorC3LeastTime
namespace Go.Proofs.YtfnhjoemmiepiaaDoor.Ext
end Go.Proofs.YtfnhjoemmiepiaaDoor.Ext
namespace Go.Proofs.YtfnhjoemmiepiaaDoor.Q
open Go.Proofs.YtfnhjoemmiepiaaDoor.Ext
open Go.RowKit Go.Proofs.YtfnhjoemmiepiaaDoorW.PrintWords Go.Proofs.YtfnhjoemmiepiaaDoorW.PrintLast Go.Proofs.YtfnhjoemmiepiaaDoorW.PrintMore
attribute [local go_sem] max2_int min2_int max_two min_two max_three min_three max_four min_four
set_option linter.unusedVariables false
set_option linter.unusedSimpArgs false
mutual
def impl_LeastTime.l0 : Nat → List Int → List (S62) → Int → Int → Int → Option (Int × Int)
  | 0, _, _, _, _, _ => none
  | k + 1, x9, x10, x11, x160000, x160001 => if x11 < (x10.length : Int) then (if 0 ≤ x11 then (impl_LeastTime.l1 k x9 (x10.set (x11 : Int).toNat (⟨(-1), (rd_T62 x10 x11).f1⟩ : S62)) x11 x9 (x9.length : Int) 0 x160000 x160001) else (none)) else ((impl_total.f k x9).bind fun t167 => (if 0 ≤ (wrap64 ((x10.length : Int) - 1)) then (if (wrap64 ((x10.length : Int) - 1)) < (x10.length : Int) then (some (wrap64 (t167 + (wrap64 (((rd_T62 x10 (wrap64 ((x10.length : Int) - 1))).f0) * (wrap64 (x160001))))), 0)) else (none)) else (none)))
def impl_LeastTime.l1 : Nat → List Int → List (S62) → Int → List Int → Int → Int → Int → Int → Option (Int × Int)
  | 0, _, _, _, _, _, _, _, _ => none
  | k + 1, x9, x10, x11, x43, x44, x45, x160000, x160001 => if x45 < x44 then (if 0 ≤ x45 then (if x45 < (x43.length : Int) then (if (Go.bits .and .i64 (shr .i64 x11 x45) 1) = 0 then (impl_LeastTime.l1 k x9 x10 x11 x43 x44 (wrap64 (x45 + 1)) x160000 x160001) else (if 0 ≤ (Go.bits .andNot .i64 x11 (shl .i64 1 x45)) then (if (Go.bits .andNot .i64 x11 (shl .i64 1 x45)) < (x10.length : Int) then (if (wrap64 (((rd_T62 x10 (Go.bits .andNot .i64 x11 (shl .i64 1 x45))).f1) + (rd x43 x45))) > (wrap64 (x160000)) then (if 0 ≤ x11 then (if x11 < (x10.length : Int) then (if ((rd_T62 x10 x11).f0) < 0 then (impl_LeastTime.l1 k x9 (x10.set (x11 : Int).toNat (⟨wrap64 (((rd_T62 x10 (Go.bits .andNot .i64 x11 (shl .i64 1 x45))).f0) + 1), wrap64 (0 + (rd x43 x45))⟩ : S62)) x11 x43 x44 (wrap64 (x45 + 1)) x160000 x160001) else (if (wrap64 (((rd_T62 x10 (Go.bits .andNot .i64 x11 (shl .i64 1 x45))).f0) + 1)) < ((rd_T62 x10 x11).f0) then (impl_LeastTime.l1 k x9 (x10.set (x11 : Int).toNat (⟨wrap64 (((rd_T62 x10 (Go.bits .andNot .i64 x11 (shl .i64 1 x45))).f0) + 1), wrap64 (0 + (rd x43 x45))⟩ : S62)) x11 x43 x44 (wrap64 (x45 + 1)) x160000 x160001) else (if (wrap64 (((rd_T62 x10 (Go.bits .andNot .i64 x11 (shl .i64 1 x45))).f0) + 1)) = ((rd_T62 x10 x11).f0) then (if (wrap64 (0 + (rd x43 x45))) < ((rd_T62 x10 x11).f1) then (impl_LeastTime.l1 k x9 (x10.set (x11 : Int).toNat (⟨wrap64 (((rd_T62 x10 (Go.bits .andNot .i64 x11 (shl .i64 1 x45))).f0) + 1), wrap64 (0 + (rd x43 x45))⟩ : S62)) x11 x43 x44 (wrap64 (x45 + 1)) x160000 x160001) else (impl_LeastTime.l1 k x9 x10 x11 x43 x44 (wrap64 (x45 + 1)) x160000 x160001)) else (impl_LeastTime.l1 k x9 x10 x11 x43 x44 (wrap64 (x45 + 1)) x160000 x160001)))) else (none)) else (none)) else (if 0 ≤ x11 then (if x11 < (x10.length : Int) then (if ((rd_T62 x10 x11).f0) < 0 then (impl_LeastTime.l1 k x9 (x10.set (x11 : Int).toNat (⟨(rd_T62 x10 (Go.bits .andNot .i64 x11 (shl .i64 1 x45))).f0, wrap64 (((rd_T62 x10 (Go.bits .andNot .i64 x11 (shl .i64 1 x45))).f1) + (rd x43 x45))⟩ : S62)) x11 x43 x44 (wrap64 (x45 + 1)) x160000 x160001) else (if ((rd_T62 x10 (Go.bits .andNot .i64 x11 (shl .i64 1 x45))).f0) < ((rd_T62 x10 x11).f0) then (impl_LeastTime.l1 k x9 (x10.set (x11 : Int).toNat (⟨(rd_T62 x10 (Go.bits .andNot .i64 x11 (shl .i64 1 x45))).f0, wrap64 (((rd_T62 x10 (Go.bits .andNot .i64 x11 (shl .i64 1 x45))).f1) + (rd x43 x45))⟩ : S62)) x11 x43 x44 (wrap64 (x45 + 1)) x160000 x160001) else (if ((rd_T62 x10 (Go.bits .andNot .i64 x11 (shl .i64 1 x45))).f0) = ((rd_T62 x10 x11).f0) then (if (wrap64 (((rd_T62 x10 (Go.bits .andNot .i64 x11 (shl .i64 1 x45))).f1) + (rd x43 x45))) < ((rd_T62 x10 x11).f1) then (impl_LeastTime.l1 k x9 (x10.set (x11 : Int).toNat (⟨(rd_T62 x10 (Go.bits .andNot .i64 x11 (shl .i64 1 x45))).f0, wrap64 (((rd_T62 x10 (Go.bits .andNot .i64 x11 (shl .i64 1 x45))).f1) + (rd x43 x45))⟩ : S62)) x11 x43 x44 (wrap64 (x45 + 1)) x160000 x160001) else (impl_LeastTime.l1 k x9 x10 x11 x43 x44 (wrap64 (x45 + 1)) x160000 x160001)) else (impl_LeastTime.l1 k x9 x10 x11 x43 x44 (wrap64 (x45 + 1)) x160000 x160001)))) else (none)) else (none))) else (none)) else (none))) else (none)) else (none)) else (impl_LeastTime.l0 k x9 x10 (wrap64 (x11 + 1)) x160000 x160001)
end
def impl_LeastTime.f (k : Nat) (a0_0 a0_1 a0_2 a0_3 a0_4 a0_5 a0_6 a0_7 a0_8 a0_9 a0_10 a0_11 a0_12 a0_13 a0_14 a0_15 a0_16 a0_17 a0_18 a0_19 a0_20 a0_21 a0_22 a0_23 a0_24 a0_25 a1_0 a1_1 : Int) (a2 : ByteArray) : Option (Int × Int) := (impl_chiselCode.f a0_0 a0_1 a0_2 a0_3 a0_4 a0_5 a0_6 a0_7 a0_8 a0_9 a0_10 a0_11 a0_12 a0_13 a0_14 a0_15 a0_16 a0_17 a0_18 a0_19 a0_20 a0_21 a0_22 a0_23 a0_24 a0_25 a1_0 a1_1 a2).bind fun t160 => (if t160 = 0 then ((impl_Strokes_each.f a0_0 a0_1 a0_2 a0_3 a0_4 a0_5 a0_6 a0_7 a0_8 a0_9 a0_10 a0_11 a0_12 a0_13 a0_14 a0_15 a0_16 a0_17 a0_18 a0_19 a0_20 a0_21 a0_22 a0_23 a0_24 a0_25 a2).bind fun t161 => (if (t161.length : Int) > 8 then (some (0, 3)) else (if 0 ≤ (shl .i64 1 (t161.length : Int)) then (if (shl .i64 1 (t161.length : Int) : Int).toNat ≤ 17592186044416 then (impl_LeastTime.l0 k t161 (List.replicate (shl .i64 1 (t161.length : Int) : Int).toNat z62) 1 a1_0 a1_1) else (none)) else (none)))) else (some (0, t160)))
theorem impl_LeastTime.mono_l : ∀ k, (∀ y0 y1 y2 y3 y4, LeO (impl_LeastTime.l0 k y0 y1 y2 y3 y4) (impl_LeastTime.l0 (k + 1) y0 y1 y2 y3 y4)) ∧ (∀ y0 y1 y2 y3 y4 y5 y6 y7, LeO (impl_LeastTime.l1 k y0 y1 y2 y3 y4 y5 y6 y7) (impl_LeastTime.l1 (k + 1) y0 y1 y2 y3 y4 y5 y6 y7))
  | 0 => ⟨fun _ _ _ _ _ r h => by simp [impl_LeastTime.l0] at h, fun _ _ _ _ _ _ _ _ r h => by simp [impl_LeastTime.l1] at h⟩
  | k + 1 => by
    obtain ⟨ih0, ih1⟩ := impl_LeastTime.mono_l k
    refine ⟨?_, ?_⟩
    · intro y0 y1 y2 y3 y4
      unfold impl_LeastTime.l0
      repeat' first
      | (with_reducible exact ih0 _ _ _ _ _)
      | (with_reducible exact ih1 _ _ _ _ _ _ _ _)
      | (with_reducible exact impl_total.mono _ _)
      | (with_reducible exact LeO.refl _)
      | (with_reducible exact LeO.none _)
      | (with_reducible refine LeO.ite ?_ ?_)
      | (with_reducible refine LeO.bind ?_ (fun _ => ?_))
      | exact ih0 _ _ _ _ _
      | exact ih1 _ _ _ _ _ _ _ _
      | exact impl_total.mono _ _
      | exact LeO.none _
      | refine LeO.ite ?_ ?_
      | refine LeO.bind ?_ (fun _ => ?_)
    · intro y0 y1 y2 y3 y4 y5 y6 y7
      unfold impl_LeastTime.l1
      repeat' first
      | (with_reducible exact ih0 _ _ _ _ _)
      | (with_reducible exact ih1 _ _ _ _ _ _ _ _)
      | (with_reducible exact impl_total.mono _ _)
      | (with_reducible exact LeO.refl _)
      | (with_reducible exact LeO.none _)
      | (with_reducible refine LeO.ite ?_ ?_)
      | (with_reducible refine LeO.bind ?_ (fun _ => ?_))
      | exact ih0 _ _ _ _ _
      | exact ih1 _ _ _ _ _ _ _ _
      | exact impl_total.mono _ _
      | exact LeO.none _
      | refine LeO.ite ?_ ?_
      | refine LeO.bind ?_ (fun _ => ?_)
theorem impl_LeastTime.mono : ∀ a0 a1 a2 a3 a4 a5 a6 a7 a8 a9 a10 a11 a12 a13 a14 a15 a16 a17 a18 a19 a20 a21 a22 a23 a24 a25 a26 a27 a28 k, LeO (impl_LeastTime.f k a0 a1 a2 a3 a4 a5 a6 a7 a8 a9 a10 a11 a12 a13 a14 a15 a16 a17 a18 a19 a20 a21 a22 a23 a24 a25 a26 a27 a28) (impl_LeastTime.f (k + 1) a0 a1 a2 a3 a4 a5 a6 a7 a8 a9 a10 a11 a12 a13 a14 a15 a16 a17 a18 a19 a20 a21 a22 a23 a24 a25 a26 a27 a28) := by
  intro a0 a1 a2 a3 a4 a5 a6 a7 a8 a9 a10 a11 a12 a13 a14 a15 a16 a17 a18 a19 a20 a21 a22 a23 a24 a25 a26 a27 a28 k
  obtain ⟨ih0, ih1⟩ := impl_LeastTime.mono_l k
  unfold impl_LeastTime.f
  repeat' first
      | (with_reducible exact ih0 _ _ _ _ _)
      | (with_reducible exact ih1 _ _ _ _ _ _ _ _)
      | (with_reducible exact impl_total.mono _ _)
      | (with_reducible exact LeO.refl _)
      | (with_reducible exact LeO.none _)
      | (with_reducible refine LeO.ite ?_ ?_)
      | (with_reducible refine LeO.bind ?_ (fun _ => ?_))
      | exact ih0 _ _ _ _ _
      | exact ih1 _ _ _ _ _ _ _ _
      | exact impl_total.mono _ _
      | exact LeO.none _
      | refine LeO.ite ?_ ?_
      | refine LeO.bind ?_ (fun _ => ?_)
set_option maxHeartbeats 8000000 in
set_option maxRecDepth 100000 in
theorem impl_LeastTime.calls (k : Nat) (a0_0 a0_1 a0_2 a0_3 a0_4 a0_5 a0_6 a0_7 a0_8 a0_9 a0_10 a0_11 a0_12 a0_13 a0_14 a0_15 a0_16 a0_17 a0_18 a0_19 a0_20 a0_21 a0_22 a0_23 a0_24 a0_25 a1_0 a1_1 : Int) (a2 : ByteArray) (r1 : Int) (r2 : Int) (w : World) (hG : GlobM w) (h : impl_LeastTime.f k a0_0 a0_1 a0_2 a0_3 a0_4 a0_5 a0_6 a0_7 a0_8 a0_9 a0_10 a0_11 a0_12 a0_13 a0_14 a0_15 a0_16 a0_17 a0_18 a0_19 a0_20 a0_21 a0_22 a0_23 a0_24 a0_25 a1_0 a1_1 a2 = some (r1, r2)) :
    Calls Tryd.prog 10 #[.agg #[.int .i8 a0_0, .int .i8 a0_1, .int .i8 a0_2, .int .i8 a0_3, .int .i8 a0_4, .int .i8 a0_5, .int .i8 a0_6, .int .i8 a0_7, .int .i8 a0_8, .int .i8 a0_9, .int .i8 a0_10, .int .i8 a0_11, .int .i8 a0_12, .int .i8 a0_13, .int .i8 a0_14, .int .i8 a0_15, .int .i8 a0_16, .int .i8 a0_17, .int .i8 a0_18, .int .i8 a0_19, .int .i8 a0_20, .int .i8 a0_21, .int .i8 a0_22, .int .i8 a0_23, .int .i8 a0_24, .int .i8 a0_25], .agg #[.int .i16 a1_0, .int .i8 a1_1], .string a2] w fun e w' => e = .returned (.tuple #[.int .i64 r1, .int .i64 r2]) ∧ Below w.heap.size w w' := by
  have HG := Aside0.mk hG
  clear hG
  have hu29 := Tryd.underlying29
  have hu31 := Tryd.underlying31
  have hu62 := Tryd.underlying62
  have HB := Aside0.mk (Below.refl w.heap.size w)
  have H : ((impl_chiselCode.f a0_0 a0_1 a0_2 a0_3 a0_4 a0_5 a0_6 a0_7 a0_8 a0_9 a0_10 a0_11 a0_12 a0_13 a0_14 a0_15 a0_16 a0_17 a0_18 a0_19 a0_20 a0_21 a0_22 a0_23 a0_24 a0_25 a1_0 a1_1 a2).bind fun t160 => (if t160 = 0 then ((impl_Strokes_each.f a0_0 a0_1 a0_2 a0_3 a0_4 a0_5 a0_6 a0_7 a0_8 a0_9 a0_10 a0_11 a0_12 a0_13 a0_14 a0_15 a0_16 a0_17 a0_18 a0_19 a0_20 a0_21 a0_22 a0_23 a0_24 a0_25 a2).bind fun t161 => (if (t161.length : Int) > 8 then (some (0, 3)) else (if 0 ≤ (shl .i64 1 (t161.length : Int)) then (if (shl .i64 1 (t161.length : Int) : Int).toNat ≤ 17592186044416 then (impl_LeastTime.l0 k t161 (List.replicate (shl .i64 1 (t161.length : Int) : Int).toNat z62) 1 a1_0 a1_1) else (none)) else (none)))) else (some (0, t160)))) = some (r1, r2) := h
  clear h
  replace H := Option.bind_eq_some_iff.mp H
  obtain ⟨t160, A40, H⟩ := H
  replace H : (if t160 = 0 then ((impl_Strokes_each.f a0_0 a0_1 a0_2 a0_3 a0_4 a0_5 a0_6 a0_7 a0_8 a0_9 a0_10 a0_11 a0_12 a0_13 a0_14 a0_15 a0_16 a0_17 a0_18 a0_19 a0_20 a0_21 a0_22 a0_23 a0_24 a0_25 a2).bind fun t161 => (if (t161.length : Int) > 8 then (some (0, 3)) else (if 0 ≤ (shl .i64 1 (t161.length : Int)) then (if (shl .i64 1 (t161.length : Int) : Int).toNat ≤ 17592186044416 then (impl_LeastTime.l0 k t161 (List.replicate (shl .i64 1 (t161.length : Int) : Int).toNat z62) 1 a1_0 a1_1) else (none)) else (none)))) else (some (0, t160))) = some (r1, r2) := H
  have A4 := Aside0.mk A40
  clear A40
  by_cases c5 : t160 = 0
  · rw [if_pos c5] at H
    have c5b0 : (t160 == 0) = true := beq_iff_eq.mpr c5
    have c5b1 : (t160 != 0) = false := bne_eq_false_iff_eq.mpr c5
    clear c5
    replace H := Option.bind_eq_some_iff.mp H
    obtain ⟨t161, A60, H⟩ := H
    replace H : (if (t161.length : Int) > 8 then (some (0, 3)) else (if 0 ≤ (shl .i64 1 (t161.length : Int)) then (if (shl .i64 1 (t161.length : Int) : Int).toNat ≤ 17592186044416 then (impl_LeastTime.l0 k t161 (List.replicate (shl .i64 1 (t161.length : Int) : Int).toNat z62) 1 a1_0 a1_1) else (none)) else (none))) = some (r1, r2) := H
    have A6 := Aside0.mk A60
    clear A60
    by_cases c7 : (t161.length : Int) > 8
    · rw [if_pos c7] at H
      have c7b0 : decide (8 < (t161.length : Int)) = true := decide_eq_true c7
      have c7b1 : decide (8 < t161.length) = true := decide_eq_true (by omega)
      clear c7
      simp only [Option.some.injEq, Prod.mk.injEq] at H
      obtain ⟨rfl, rfl⟩ := H
      go_enter Tryd.func10, Tryd.ntmps10
      go_wp2_with (first | ((with_reducible refine gate_dst (N := 3) rfl ?_); refine box_event ?hg (N := 3) ?hd (cs := #[.int .i8 a0_0, .int .i8 a0_1, .int .i8 a0_2, .int .i8 a0_3, .int .i8 a0_4, .int .i8 a0_5, .int .i8 a0_6, .int .i8 a0_7, .int .i8 a0_8, .int .i8 a0_9, .int .i8 a0_10, .int .i8 a0_11, .int .i8 a0_12, .int .i8 a0_13, .int .i8 a0_14, .int .i8 a0_15, .int .i8 a0_16, .int .i8 a0_17, .int .i8 a0_18, .int .i8 a0_19, .int .i8 a0_20, .int .i8 a0_21, .int .i8 a0_22, .int .i8 a0_23, .int .i8 a0_24, .int .i8 a0_25]) (t := 29) ?hr ?_; (case hd => rfl); (case hg => rfl); (case hr => first | (go_simp; done) | (go_simp; rfl)); intro gb158 hg w8 hbox hb; have n0_ := Aside0.mk (below_step (by repeat (first | (with_reducible first | exact HB.out | apply below_alloc | apply pw_below_drewN | apply below_drew1) | exact HB.out)) hb); have n1_ := Aside0.mk (hbox); have n2_ := Aside0.mk ((by rw [hg]; exact (below_size (by repeat (first | (with_reducible first | exact HB.out | apply below_alloc | apply pw_below_drewN | apply below_drew1) | exact HB.out))) : w.heap.size ≤ gb158)); have n3_ := Aside0.mk (n2_.out); clear HB; have HB := n0_; have BK158 := n1_; have GW158 := n2_; have GE158 := n3_; clear n0_ n1_ n2_ n3_; clear hb hbox hg) | ((with_reducible refine gate_dst (N := 4) rfl ?_); refine box_event ?hg (N := 4) ?hd (cs := #[.int .i16 a1_0, .int .i8 a1_1]) (t := 31) ?hr ?_; (case hd => rfl); (case hg => rfl); (case hr => first | (go_simp; done) | (go_simp; rfl)); intro gb159 hg w9 hbox hb; have n0_ := Aside0.mk (blk_below (g := gb158) (by (with_reducible repeat (first | refine blk_drewN ?_ _ | refine blk_drew ?_ | refine blk_alloc ?_ _)); exact BK158.out) hb); have n1_ := Aside0.mk (below_step (by repeat (first | (with_reducible first | exact HB.out | apply below_alloc | apply pw_below_drewN | apply below_drew1 | refine below_set ?_ GE158.out) | exact HB.out)) hb); have n2_ := Aside0.mk (hbox); have n3_ := Aside0.mk ((by rw [hg]; exact (below_size (by repeat (first | (with_reducible first | exact HB.out | apply below_alloc | apply pw_below_drewN | apply below_drew1 | refine below_set ?_ GE158.out) | exact HB.out))) : w.heap.size ≤ gb159)); have n4_ := Aside0.mk (n3_.out); have n5_ := Aside0.mk ((by rw [hg]; exact Nat.ne_of_lt (blk_lt (g := gb158) (by (with_reducible repeat (first | refine blk_drewN ?_ _ | refine blk_drew ?_ | refine blk_alloc ?_ _)); exact BK158.out)) : gb158 ≠ gb159)); have n6_ := Aside0.mk ((Ne.symm n5_.out)); clear BK158; clear HB; have BK158 := n0_; have HB := n1_; have BK159 := n2_; have GW159 := n3_; have GE159 := n4_; have NB158_159 := n5_; have NB159_158 := n6_; clear n0_ n1_ n2_ n3_ n4_ n5_ n6_; clear hb hbox hg) | ((with_reducible refine gate_dst (N := 16) rfl ?_); refine wpList_load_mid rfl 29 (.tmp 3) rfl gb158 0 rfl [.int .i8 a0_0, .int .i8 a0_1, .int .i8 a0_2, .int .i8 a0_3, .int .i8 a0_4, .int .i8 a0_5, .int .i8 a0_6, .int .i8 a0_7, .int .i8 a0_8, .int .i8 a0_9, .int .i8 a0_10, .int .i8 a0_11, .int .i8 a0_12, .int .i8 a0_13, .int .i8 a0_14, .int .i8 a0_15, .int .i8 a0_16, .int .i8 a0_17, .int .i8 a0_18, .int .i8 a0_19, .int .i8 a0_20, .int .i8 a0_21, .int .i8 a0_22, .int .i8 a0_23, .int .i8 a0_24, .int .i8 a0_25] _ (range_partx_ [] [.int .i8 a0_0, .int .i8 a0_1, .int .i8 a0_2, .int .i8 a0_3, .int .i8 a0_4, .int .i8 a0_5, .int .i8 a0_6, .int .i8 a0_7, .int .i8 a0_8, .int .i8 a0_9, .int .i8 a0_10, .int .i8 a0_11, .int .i8 a0_12, .int .i8 a0_13, .int .i8 a0_14, .int .i8 a0_15, .int .i8 a0_16, .int .i8 a0_17, .int .i8 a0_18, .int .i8 a0_19, .int .i8 a0_20, .int .i8 a0_21, .int .i8 a0_22, .int .i8 a0_23, .int .i8 a0_24, .int .i8 a0_25] [] 0 rfl (by (with_reducible repeat (first | refine blk_drewN ?_ _ | refine blk_drew ?_ | refine blk_alloc ?_ _)); exact BK158.out)) Tryd.underlying29 rfl (by exact (show (Tryd.prog.info? 29).map (·.size) = some 26 by kernel_rfl)) ?_; have hnb10 := NB159_158.out; have hnc10 := NB158_159.out; have hcz11_0 : w9.cell? ⟨gb159, 0, none⟩ = some (.int .i16 a1_0) := (blk_cell BK159.out 0).trans rfl; have hcz11_1 : w9.cell? ⟨gb159, 1, none⟩ = some (.int .i8 a1_1) := (blk_cell BK159.out 1).trans rfl; have hfz11_0 := blk_frozen BK159.out 0; have hfz11_1 := blk_frozen BK159.out 1) | (go_at_call 25; (with_reducible refine (impl_chiselCode.calls a0_0 a0_1 a0_2 a0_3 a0_4 a0_5 a0_6 a0_7 a0_8 a0_9 a0_10 a0_11 a0_12 a0_13 a0_14 a0_15 a0_16 a0_17 a0_18 a0_19 a0_20 a0_21 a0_22 a0_23 a0_24 a0_25 a1_0 a1_1 a2 t160 _ ?sideG A4.out).mono ?_); (case sideG => first | exact HG.out.below (by repeat (first | (with_reducible first | exact HB.out | apply below_alloc | apply pw_below_drewN | apply below_drew1) | exact HB.out)) | exact (HG.out.below (by repeat (first | (with_reducible first | exact HB.out | apply below_alloc | apply pw_below_drewN | apply below_drew1) | exact HB.out))).toM); rintro e w12 ⟨rfl, hb⟩; have n0_ := Aside0.mk (blk_below (g := gb158) (by (with_reducible repeat (first | refine blk_drewN ?_ _ | refine blk_drew ?_ | refine blk_alloc ?_ _)); exact BK158.out) hb); have n1_ := Aside0.mk (blk_below (g := gb159) (by (with_reducible repeat (first | refine blk_drewN ?_ _ | refine blk_drew ?_ | refine blk_alloc ?_ _)); exact BK159.out) hb); have n2_ := Aside0.mk (below_step (by repeat (first | (with_reducible first | exact HB.out | apply below_alloc | apply pw_below_drewN | apply below_drew1 | refine below_set ?_ GE158.out | refine below_set ?_ GE159.out) | exact HB.out)) hb); clear BK158; clear BK159; clear HB; have BK158 := n0_; have BK159 := n1_; have HB := n2_; clear n0_ n1_ n2_; (try clear hb); (try clear hb2); (try clear hk); (try clear hi)) | ((with_reducible refine gate_dst (N := 23) rfl ?_); refine wpList_load_mid rfl 29 (.tmp 3) rfl gb158 0 rfl [.int .i8 a0_0, .int .i8 a0_1, .int .i8 a0_2, .int .i8 a0_3, .int .i8 a0_4, .int .i8 a0_5, .int .i8 a0_6, .int .i8 a0_7, .int .i8 a0_8, .int .i8 a0_9, .int .i8 a0_10, .int .i8 a0_11, .int .i8 a0_12, .int .i8 a0_13, .int .i8 a0_14, .int .i8 a0_15, .int .i8 a0_16, .int .i8 a0_17, .int .i8 a0_18, .int .i8 a0_19, .int .i8 a0_20, .int .i8 a0_21, .int .i8 a0_22, .int .i8 a0_23, .int .i8 a0_24, .int .i8 a0_25] _ (range_partx_ [] [.int .i8 a0_0, .int .i8 a0_1, .int .i8 a0_2, .int .i8 a0_3, .int .i8 a0_4, .int .i8 a0_5, .int .i8 a0_6, .int .i8 a0_7, .int .i8 a0_8, .int .i8 a0_9, .int .i8 a0_10, .int .i8 a0_11, .int .i8 a0_12, .int .i8 a0_13, .int .i8 a0_14, .int .i8 a0_15, .int .i8 a0_16, .int .i8 a0_17, .int .i8 a0_18, .int .i8 a0_19, .int .i8 a0_20, .int .i8 a0_21, .int .i8 a0_22, .int .i8 a0_23, .int .i8 a0_24, .int .i8 a0_25] [] 0 rfl (by (with_reducible repeat (first | refine blk_drewN ?_ _ | refine blk_drew ?_ | refine blk_alloc ?_ _)); exact BK158.out)) Tryd.underlying29 rfl (by exact (show (Tryd.prog.info? 29).map (·.size) = some 26 by kernel_rfl)) ?_) | (go_at_call 26; (with_reducible refine (impl_Strokes_each.calls a0_0 a0_1 a0_2 a0_3 a0_4 a0_5 a0_6 a0_7 a0_8 a0_9 a0_10 a0_11 a0_12 a0_13 a0_14 a0_15 a0_16 a0_17 a0_18 a0_19 a0_20 a0_21 a0_22 a0_23 a0_24 a0_25 a2 t161 _ ?sideG A6.out).mono ?_); (case sideG => first | exact HG.out.below (by repeat (first | (with_reducible first | exact HB.out | apply below_alloc | apply pw_below_drewN | apply below_drew1) | exact HB.out)) | exact (HG.out.below (by repeat (first | (with_reducible first | exact HB.out | apply below_alloc | apply pw_below_drewN | apply below_drew1) | exact HB.out))).toM); rintro e w13 ⟨v162, rfl, ho0, hb⟩; have n0_ := Aside0.mk (Kd.R_lower ho0 (below_size (by repeat (first | (with_reducible first | exact HB.out | apply below_alloc | apply pw_below_drewN | apply below_drew1 | refine below_set ?_ GE158.out | refine below_set ?_ GE159.out) | exact HB.out)))); have n1_ := Aside0.mk (blk_below (g := gb158) (by (with_reducible repeat (first | refine blk_drewN ?_ _ | refine blk_drew ?_ | refine blk_alloc ?_ _)); exact BK158.out) hb); have n2_ := Aside0.mk (blk_below (g := gb159) (by (with_reducible repeat (first | refine blk_drewN ?_ _ | refine blk_drew ?_ | refine blk_alloc ?_ _)); exact BK159.out) hb); have n3_ := Aside0.mk (below_step (by repeat (first | (with_reducible first | exact HB.out | apply below_alloc | apply pw_below_drewN | apply below_drew1 | refine below_set ?_ GE158.out | refine below_set ?_ GE159.out) | exact HB.out)) hb); clear BK158; clear BK159; clear HB; have HO163 := n0_; have BK158 := n1_; have BK159 := n2_; have HB := n3_; clear n0_ n1_ n2_ n3_; (try clear hb); (try clear hb2); (try clear hk); (try clear hi); (try clear ho0); obtain ⟨Ao14, co14, eo14⟩ := Kd.R_slice HO163.out; subst eo14))
      go_ret2
      exact ⟨by first | rfl | (simp [errW_none, errW_some, i64_w]; done) | (simp [errW_none, errW_some] <;> rfl) | (simp [*, errW_none, errW_some] <;> rfl), by repeat (first | (with_reducible first | exact HB.out | apply below_alloc | apply pw_below_drewN | apply below_drew1 | refine below_set ?_ GE158.out | refine below_set ?_ GE159.out) | exact HB.out)⟩
    · rw [if_neg c7] at H
      have c7b0 : decide (8 < (t161.length : Int)) = false := decide_eq_false c7
      have c7b1 : decide (8 < t161.length) = false := decide_eq_false (by omega)
      clear c7
      obtain ⟨ji15, hji15⟩ : ∃ j_ : Int, (shl .i64 1 (t161.length : Int)) = j_ := ⟨_, rfl⟩
      replace H : (if 0 ≤ (ji15) then (if (ji15 : Int).toNat ≤ 17592186044416 then (impl_LeastTime.l0 k t161 (List.replicate (ji15 : Int).toNat z62) 1 a1_0 a1_1) else (none)) else (none)) = some (r1, r2) := by first | (rw [hji15] at H; exact H) | (simp only [hji15] at H ⊢; exact H)
      (try rw [hji15] at A4)
      (try rw [hji15] at A6)
      have hji15_ : (IntKind.i64.wrap (1 * 2 ^ min (t161.length : Int).toNat 64)) = ji15 := hji15
      have hji15z : (t161.length : Int) ≤ 64 → (IntKind.i64.wrap (1 * 2 ^ (t161.length : Int).toNat)) = ji15 := shl_small hji15
      have hji15p : (IntKind.i64.wrap (1 * 2 ^ min t161.length 64)) = ji15 := hji15_
      have hji15q : (t161.length : Int) ≤ 64 → (IntKind.i64.wrap (1 * 2 ^ t161.length)) = ji15 := hji15z
      have hji15r : (IntKind.i64.wrap (2 ^ min t161.length 64)) = ji15 := by have h_ := hji15p; rw [Int.one_mul] at h_; exact h_
      have hji15s : (t161.length : Int) ≤ 64 → (IntKind.i64.wrap (2 ^ t161.length)) = ji15 := fun hle_ => by have h_ := hji15q hle_; rw [Int.one_mul] at h_; exact h_
      have hji15u : (IntKind.i64.wrap (2 ^ min (t161.length : Int).toNat 64)) = ji15 := by have h_ := hji15_; rw [Int.one_mul] at h_; exact h_
      have hji15v : (t161.length : Int) ≤ 64 → (IntKind.i64.wrap (2 ^ (t161.length : Int).toNat)) = ji15 := fun hle_ => by have h_ := hji15z hle_; rw [Int.one_mul] at h_; exact h_
      have hji15y : (wrap64 (1 * 2 ^ min (t161.length : Int).toNat 64)) = ji15 := (i64_w _).symm.trans hji15_
      have hji15x : (t161.length : Int) ≤ 64 → (wrap64 (1 * 2 ^ (t161.length : Int).toNat)) = ji15 := fun h_ => (i64_w _).symm.trans (hji15z h_)
      by_cases c16 : 0 ≤ (ji15)
      · rw [if_pos c16] at H
        have c16b0 := eq_true c16
        have c16b1 : decide (0 ≤ (ji15)) = true := decide_eq_true c16
        clear c16
        by_cases c17 : (ji15 : Int).toNat ≤ 17592186044416
        · rw [if_pos c17] at H
          have c17b0 := eq_true c17
          have c17b1 : decide ((ji15 : Int).toNat ≤ 17592186044416) = true := decide_eq_true c17
          clear c17
          obtain ⟨y164, hy164⟩ : ∃ y_ : List (S62), y_ = (List.replicate (ji15 : Int).toNat z62) := ⟨_, rfl⟩
          replace H : (impl_LeastTime.l0 k t161 y164 1 a1_0 a1_1) = some (r1, r2) := by first | (rw [hy164]; with_reducible exact H) | (have H2_ := (Option.bind_some _ _).symm.trans H; rw [hy164]; with_reducible exact H2_) | (have H2_ := (Option.bind_some _ _).symm.trans H; with_reducible exact H2_) | with_reducible exact H | (rw [hy164]; exact H) | exact H
          have Ny164 := Aside0.mk hy164
          clear hy164
          have H' := Aside0.mk H
          clear H
          go_enter Tryd.func10, Tryd.ntmps10
          go_wp2_with (first | ((with_reducible refine gate_dst (N := 3) rfl ?_); refine box_event ?hg (N := 3) ?hd (cs := #[.int .i8 a0_0, .int .i8 a0_1, .int .i8 a0_2, .int .i8 a0_3, .int .i8 a0_4, .int .i8 a0_5, .int .i8 a0_6, .int .i8 a0_7, .int .i8 a0_8, .int .i8 a0_9, .int .i8 a0_10, .int .i8 a0_11, .int .i8 a0_12, .int .i8 a0_13, .int .i8 a0_14, .int .i8 a0_15, .int .i8 a0_16, .int .i8 a0_17, .int .i8 a0_18, .int .i8 a0_19, .int .i8 a0_20, .int .i8 a0_21, .int .i8 a0_22, .int .i8 a0_23, .int .i8 a0_24, .int .i8 a0_25]) (t := 29) ?hr ?_; (case hd => rfl); (case hg => rfl); (case hr => first | (go_simp; done) | (go_simp; rfl)); intro gb158 hg w18 hbox hb; have n0_ := Aside0.mk (below_step (by repeat (first | (with_reducible first | exact HB.out | apply below_alloc | apply pw_below_drewN | apply below_drew1) | exact HB.out)) hb); have n1_ := Aside0.mk (hbox); have n2_ := Aside0.mk ((by rw [hg]; exact (below_size (by repeat (first | (with_reducible first | exact HB.out | apply below_alloc | apply pw_below_drewN | apply below_drew1) | exact HB.out))) : w.heap.size ≤ gb158)); have n3_ := Aside0.mk (n2_.out); clear HB; have HB := n0_; have BK158 := n1_; have GW158 := n2_; have GE158 := n3_; clear n0_ n1_ n2_ n3_; clear hb hbox hg) | ((with_reducible refine gate_dst (N := 4) rfl ?_); refine box_event ?hg (N := 4) ?hd (cs := #[.int .i16 a1_0, .int .i8 a1_1]) (t := 31) ?hr ?_; (case hd => rfl); (case hg => rfl); (case hr => first | (go_simp; done) | (go_simp; rfl)); intro gb159 hg w19 hbox hb; have n0_ := Aside0.mk (blk_below (g := gb158) (by (with_reducible repeat (first | refine blk_drewN ?_ _ | refine blk_drew ?_ | refine blk_alloc ?_ _)); exact BK158.out) hb); have n1_ := Aside0.mk (below_step (by repeat (first | (with_reducible first | exact HB.out | apply below_alloc | apply pw_below_drewN | apply below_drew1 | refine below_set ?_ GE158.out) | exact HB.out)) hb); have n2_ := Aside0.mk (hbox); have n3_ := Aside0.mk ((by rw [hg]; exact (below_size (by repeat (first | (with_reducible first | exact HB.out | apply below_alloc | apply pw_below_drewN | apply below_drew1 | refine below_set ?_ GE158.out) | exact HB.out))) : w.heap.size ≤ gb159)); have n4_ := Aside0.mk (n3_.out); have n5_ := Aside0.mk ((by rw [hg]; exact Nat.ne_of_lt (blk_lt (g := gb158) (by (with_reducible repeat (first | refine blk_drewN ?_ _ | refine blk_drew ?_ | refine blk_alloc ?_ _)); exact BK158.out)) : gb158 ≠ gb159)); have n6_ := Aside0.mk ((Ne.symm n5_.out)); clear BK158; clear HB; have BK158 := n0_; have HB := n1_; have BK159 := n2_; have GW159 := n3_; have GE159 := n4_; have NB158_159 := n5_; have NB159_158 := n6_; clear n0_ n1_ n2_ n3_ n4_ n5_ n6_; clear hb hbox hg) | ((with_reducible refine gate_dst (N := 16) rfl ?_); refine wpList_load_mid rfl 29 (.tmp 3) rfl gb158 0 rfl [.int .i8 a0_0, .int .i8 a0_1, .int .i8 a0_2, .int .i8 a0_3, .int .i8 a0_4, .int .i8 a0_5, .int .i8 a0_6, .int .i8 a0_7, .int .i8 a0_8, .int .i8 a0_9, .int .i8 a0_10, .int .i8 a0_11, .int .i8 a0_12, .int .i8 a0_13, .int .i8 a0_14, .int .i8 a0_15, .int .i8 a0_16, .int .i8 a0_17, .int .i8 a0_18, .int .i8 a0_19, .int .i8 a0_20, .int .i8 a0_21, .int .i8 a0_22, .int .i8 a0_23, .int .i8 a0_24, .int .i8 a0_25] _ (range_partx_ [] [.int .i8 a0_0, .int .i8 a0_1, .int .i8 a0_2, .int .i8 a0_3, .int .i8 a0_4, .int .i8 a0_5, .int .i8 a0_6, .int .i8 a0_7, .int .i8 a0_8, .int .i8 a0_9, .int .i8 a0_10, .int .i8 a0_11, .int .i8 a0_12, .int .i8 a0_13, .int .i8 a0_14, .int .i8 a0_15, .int .i8 a0_16, .int .i8 a0_17, .int .i8 a0_18, .int .i8 a0_19, .int .i8 a0_20, .int .i8 a0_21, .int .i8 a0_22, .int .i8 a0_23, .int .i8 a0_24, .int .i8 a0_25] [] 0 rfl (by (with_reducible repeat (first | refine blk_drewN ?_ _ | refine blk_drew ?_ | refine blk_alloc ?_ _)); exact BK158.out)) Tryd.underlying29 rfl (by exact (show (Tryd.prog.info? 29).map (·.size) = some 26 by kernel_rfl)) ?_; have hnb20 := NB159_158.out; have hnc20 := NB158_159.out; have hcz21_0 : w19.cell? ⟨gb159, 0, none⟩ = some (.int .i16 a1_0) := (blk_cell BK159.out 0).trans rfl; have hcz21_1 : w19.cell? ⟨gb159, 1, none⟩ = some (.int .i8 a1_1) := (blk_cell BK159.out 1).trans rfl; have hfz21_0 := blk_frozen BK159.out 0; have hfz21_1 := blk_frozen BK159.out 1) | (go_at_call 25; (with_reducible refine (impl_chiselCode.calls a0_0 a0_1 a0_2 a0_3 a0_4 a0_5 a0_6 a0_7 a0_8 a0_9 a0_10 a0_11 a0_12 a0_13 a0_14 a0_15 a0_16 a0_17 a0_18 a0_19 a0_20 a0_21 a0_22 a0_23 a0_24 a0_25 a1_0 a1_1 a2 t160 _ ?sideG A4.out).mono ?_); (case sideG => first | exact HG.out.below (by repeat (first | (with_reducible first | exact HB.out | apply below_alloc | apply pw_below_drewN | apply below_drew1) | exact HB.out)) | exact (HG.out.below (by repeat (first | (with_reducible first | exact HB.out | apply below_alloc | apply pw_below_drewN | apply below_drew1) | exact HB.out))).toM); rintro e w22 ⟨rfl, hb⟩; have n0_ := Aside0.mk (blk_below (g := gb158) (by (with_reducible repeat (first | refine blk_drewN ?_ _ | refine blk_drew ?_ | refine blk_alloc ?_ _)); exact BK158.out) hb); have n1_ := Aside0.mk (blk_below (g := gb159) (by (with_reducible repeat (first | refine blk_drewN ?_ _ | refine blk_drew ?_ | refine blk_alloc ?_ _)); exact BK159.out) hb); have n2_ := Aside0.mk (below_step (by repeat (first | (with_reducible first | exact HB.out | apply below_alloc | apply pw_below_drewN | apply below_drew1 | refine below_set ?_ GE158.out | refine below_set ?_ GE159.out) | exact HB.out)) hb); clear BK158; clear BK159; clear HB; have BK158 := n0_; have BK159 := n1_; have HB := n2_; clear n0_ n1_ n2_; (try clear hb); (try clear hb2); (try clear hk); (try clear hi)) | ((with_reducible refine gate_dst (N := 23) rfl ?_); refine wpList_load_mid rfl 29 (.tmp 3) rfl gb158 0 rfl [.int .i8 a0_0, .int .i8 a0_1, .int .i8 a0_2, .int .i8 a0_3, .int .i8 a0_4, .int .i8 a0_5, .int .i8 a0_6, .int .i8 a0_7, .int .i8 a0_8, .int .i8 a0_9, .int .i8 a0_10, .int .i8 a0_11, .int .i8 a0_12, .int .i8 a0_13, .int .i8 a0_14, .int .i8 a0_15, .int .i8 a0_16, .int .i8 a0_17, .int .i8 a0_18, .int .i8 a0_19, .int .i8 a0_20, .int .i8 a0_21, .int .i8 a0_22, .int .i8 a0_23, .int .i8 a0_24, .int .i8 a0_25] _ (range_partx_ [] [.int .i8 a0_0, .int .i8 a0_1, .int .i8 a0_2, .int .i8 a0_3, .int .i8 a0_4, .int .i8 a0_5, .int .i8 a0_6, .int .i8 a0_7, .int .i8 a0_8, .int .i8 a0_9, .int .i8 a0_10, .int .i8 a0_11, .int .i8 a0_12, .int .i8 a0_13, .int .i8 a0_14, .int .i8 a0_15, .int .i8 a0_16, .int .i8 a0_17, .int .i8 a0_18, .int .i8 a0_19, .int .i8 a0_20, .int .i8 a0_21, .int .i8 a0_22, .int .i8 a0_23, .int .i8 a0_24, .int .i8 a0_25] [] 0 rfl (by (with_reducible repeat (first | refine blk_drewN ?_ _ | refine blk_drew ?_ | refine blk_alloc ?_ _)); exact BK158.out)) Tryd.underlying29 rfl (by exact (show (Tryd.prog.info? 29).map (·.size) = some 26 by kernel_rfl)) ?_) | (go_at_call 26; (with_reducible refine (impl_Strokes_each.calls a0_0 a0_1 a0_2 a0_3 a0_4 a0_5 a0_6 a0_7 a0_8 a0_9 a0_10 a0_11 a0_12 a0_13 a0_14 a0_15 a0_16 a0_17 a0_18 a0_19 a0_20 a0_21 a0_22 a0_23 a0_24 a0_25 a2 t161 _ ?sideG A6.out).mono ?_); (case sideG => first | exact HG.out.below (by repeat (first | (with_reducible first | exact HB.out | apply below_alloc | apply pw_below_drewN | apply below_drew1) | exact HB.out)) | exact (HG.out.below (by repeat (first | (with_reducible first | exact HB.out | apply below_alloc | apply pw_below_drewN | apply below_drew1) | exact HB.out))).toM); rintro e w23 ⟨v162, rfl, ho0, hb⟩; have n0_ := Aside0.mk (Kd.R_lower ho0 (below_size (by repeat (first | (with_reducible first | exact HB.out | apply below_alloc | apply pw_below_drewN | apply below_drew1 | refine below_set ?_ GE158.out | refine below_set ?_ GE159.out) | exact HB.out)))); have n1_ := Aside0.mk (blk_below (g := gb158) (by (with_reducible repeat (first | refine blk_drewN ?_ _ | refine blk_drew ?_ | refine blk_alloc ?_ _)); exact BK158.out) hb); have n2_ := Aside0.mk (blk_below (g := gb159) (by (with_reducible repeat (first | refine blk_drewN ?_ _ | refine blk_drew ?_ | refine blk_alloc ?_ _)); exact BK159.out) hb); have n3_ := Aside0.mk (below_step (by repeat (first | (with_reducible first | exact HB.out | apply below_alloc | apply pw_below_drewN | apply below_drew1 | refine below_set ?_ GE158.out | refine below_set ?_ GE159.out) | exact HB.out)) hb); clear BK158; clear BK159; clear HB; have HO163 := n0_; have BK158 := n1_; have BK159 := n2_; have HB := n3_; clear n0_ n1_ n2_ n3_; (try clear hb); (try clear hb2); (try clear hk); (try clear hi); (try clear ho0); obtain ⟨Ao24, co24, eo24⟩ := Kd.R_slice HO163.out; subst eo24) | ((with_reducible refine gate_dst (N := 32) rfl ?_); refine Kd.R_make k62 _ 62 rfl (N := 32) rfl 60 _ _ rfl ji15 rfl rfl Tryd.underlying60 (.agg #[(.int .i64 0), (.int .i64 0)]) 16 info62 rfl (by decide) (by omega) z62 (ok := fun _ => True) (okp := fun _ => True) (k62_mkM _ _ _ z62 ) (fun _ hk => hk) trivial (of_decide_eq_true (by assumption)) (Nat.le_trans (Nat.mul_le_mul_right _ (of_decide_eq_true (by assumption) : ji15.toNat ≤ 17592186044416)) (by omega)) (Below.refl _ _) (Nat.le_refl _) ?_; intro v165 w25 ho26 hb hg_ hnew_; clear hg_ hnew_; (first | rw [← Ny164.out] at ho26 | (simp only [Int.reduceToNat] at ho26; rw [← Ny164.out] at ho26)); have n0_ := Aside0.mk (Kd.R_below (by (with_reducible repeat (first | apply Kd.R_alloc | apply Kd.R_drewN | apply Kd.R_drew)); exact HO163.out) hb); have n1_ := Aside0.mk (Kd.R_lower ho26 (below_size (by repeat (first | (with_reducible first | exact HB.out | apply below_alloc | apply pw_below_drewN | apply below_drew1 | refine below_set ?_ GE158.out | refine below_set ?_ GE159.out) | exact HB.out)))); have n2_ := Aside0.mk (blk_below (g := gb158) (by (with_reducible repeat (first | refine blk_drewN ?_ _ | refine blk_drew ?_ | refine blk_alloc ?_ _)); exact BK158.out) hb); have n3_ := Aside0.mk (blk_below (g := gb159) (by (with_reducible repeat (first | refine blk_drewN ?_ _ | refine blk_drew ?_ | refine blk_alloc ?_ _)); exact BK159.out) hb); have n4_ := Aside0.mk (below_step (by repeat (first | (with_reducible first | exact HB.out | apply below_alloc | apply pw_below_drewN | apply below_drew1 | refine below_set ?_ GE158.out | refine below_set ?_ GE159.out) | exact HB.out)) hb); clear HO163; clear BK158; clear BK159; clear HB; have HO163 := n0_; have HO166 := n1_; have BK158 := n2_; have BK159 := n3_; have HB := n4_; clear n0_ n1_ n2_ n3_ n4_; clear hb ho26))
          go_loopg [11] k (fun kq v11 w' => ∃ (x10_1 : List (S62)) (x11_1 : Int), v11 = .int .i64 x11_1 ∧ Aside0 (impl_LeastTime.l0 kq t161 x10_1 x11_1 a1_0 a1_1 = some (r1, r2)) ∧ Aside0 (kq ≤ k) ∧ Aside0 (Kd.R (Kd.int .i64) 2 w' w.heap.size (fun _ => True) (.slice Ao24 t161.length co24) t161) ∧ Aside0 (Kd.R k62 62 w' w.heap.size (fun _ => True) v165 x10_1) ∧ Aside0 (w'.heap[gb159]? = some (.cells #[.int .i16 a1_0, .int .i8 a1_1] 31 (0, 0))) ∧ Aside0 (Below w.heap.size w w'))
          case atStart => exact ⟨(y164), (1), (by first | rfl | (simp; done) | (simp [*]; done)), H', ⟨Nat.le_refl _⟩, ⟨by (with_reducible repeat (first | apply Kd.R_alloc | apply Kd.R_drewN | apply Kd.R_drew)); exact HO163.out⟩, ⟨by (with_reducible repeat (first | apply Kd.R_alloc | apply Kd.R_drewN | apply Kd.R_drew)); exact HO166.out⟩, ⟨by (with_reducible repeat (first | refine blk_drewN ?_ _ | refine blk_drew ?_ | refine blk_alloc ?_ _)); exact BK159.out⟩, ⟨by repeat (first | (with_reducible first | exact HB.out | apply below_alloc | apply pw_below_drewN | apply below_drew1 | refine below_set ?_ GE158.out | refine below_set ?_ GE159.out) | exact HB.out)⟩⟩
          case round =>
            clear H'
            try clear c1
            try clear c2
            try clear p2
            try clear c5
            try clear c5b0
            try clear c5b1
            try clear p6
            try clear c7
            try clear c7b0
            try clear c7b1
            try clear c10
            try clear c16
            try clear c16b0
            try clear c16b1
            try clear c17
            try clear c17b0
            try clear c17b1
            try clear c20
            try clear hcz11_0
            try clear hcz11_1
            try clear hcz21_0
            try clear hcz21_1
            try clear hfz11_0
            try clear hfz11_1
            try clear hfz21_0
            try clear hfz21_1
            obtain ⟨x10_1, x11_1, rfl, HA, HK1, HO_9, HO_10, BK159, HB⟩ := hrel
            cases gk with
            | zero => exact absurd HA.out (by simp [impl_LeastTime.l0])
            | succ k1 =>
              have H := HA.out
              clear HA
              simp only [impl_LeastTime.l0] at H
              by_cases c27 : x11_1 < (x10_1.length : Int)
              · rw [if_pos c27] at H
                have c27b0 : decide (x11_1 < (x10_1.length : Int)) = true := decide_eq_true c27
                clear c27
                by_cases c28 : 0 ≤ x11_1
                · rw [if_pos c28] at H
                  have c28b0 : decide (0 ≤ x11_1) = true := decide_eq_true c28
                  clear c28
                  obtain ⟨y169, hy169⟩ : ∃ y_ : List (S62), y_ = (x10_1.set (x11_1 : Int).toNat (⟨(-1), (rd_T62 x10_1 x11_1).f1⟩ : S62)) := ⟨_, rfl⟩
                  replace H : (impl_LeastTime.l1 k1 t161 y169 x11_1 t161 (t161.length : Int) 0 a1_0 a1_1) = some (r1, r2) := by first | (rw [hy169]; with_reducible exact H) | (have H2_ := (Option.bind_some _ _).symm.trans H; rw [hy169]; with_reducible exact H2_) | (have H2_ := (Option.bind_some _ _).symm.trans H; with_reducible exact H2_) | with_reducible exact H | (rw [hy169]; exact H) | exact H
                  have Ny169 := Aside0.mk hy169
                  clear hy169
                  have H' := Aside0.mk H
                  clear H
                  obtain ⟨Ao30, co30, eo30⟩ := Kd.R_slice HO_10.out
                  subst eo30
                  have p29 : 0 ≤ (x11_1 : Int) := of_decide_eq_true (by assumption)
                  have q29 : (x11_1 : Int) < ((x10_1.length : Int) : Int) := of_decide_eq_true (by assumption)
                  obtain ⟨go29, co29, eo29, gb29, gl29, cl29, HG29⟩ := Kd.R_form HO_10.out (by omega)
                  (first | cases eo29 | (injection eo29 with ea_ en_ ec_; (first | subst ea_ | (injection ea_ with ea_; subst ea_)); subst ec_; clear en_))
                  have GB29 := Aside0.mk gb29
                  have GG29 := Aside0.mk HG29
                  clear gb29 gl29 HG29
                  obtain ⟨ce29, hcl29, hM29, hcc29, hfr29⟩ := Kd.R_elem HO_10.out z62 (x11_1 : Int) p29 q29
                  obtain rfl := k62_openM hM29
                  have hx29_0 : wr.cell? ⟨go29, (x11_1 : Int).toNat * 2, none⟩ = some (.int .i64 ((rd_T62 x10_1 x11_1).f0)) := hcc29 0 _ rfl
                  have hx29_1 : wr.cell? ⟨go29, (x11_1 : Int).toNat * 2 + 1, none⟩ = some (.int .i64 ((rd_T62 x10_1 x11_1).f1)) := hcc29 1 _ rfl
                  have hf29_0 : wr.frozen? ⟨go29, (x11_1 : Int).toNat * 2, none⟩ = false := hfr29 0
                  have hf29_1 : wr.frozen? ⟨go29, (x11_1 : Int).toNat * 2 + 1, none⟩ = false := hfr29 1
                  clear hcl29 hcc29 hfr29 hM29
                  replace p29 := eq_true p29
                  replace q29 := eq_true q29
                  have HX31 := Aside0.mk (show Kd.R k62 62 wr w.heap.size (fun _ => True) (.slice (some ⟨go29, 0, none⟩) x10_1.length co30) x10_1 from (by (with_reducible repeat (first | apply Kd.R_alloc | apply Kd.R_drewN | apply Kd.R_drew)); exact HO_10.out))
                  obtain ⟨ce31, hcl31, hM31, hcc31, hfr31⟩ := Kd.R_elem HX31.out z62 (x11_1 : Int) (of_decide_eq_true (by assumption)) (by have h_ : (x11_1 : Int) < ((x10_1.length : Int) : Int) := of_decide_eq_true (by assumption); first | exact h_ | (have e_ := (Kd.R_reads' HO_10.out).1; omega) | simpa using h_)
                  obtain rfl := k62_openM hM31
                  have HP31 := Kd.R_seg HX31.out (x11_1 : Int) (of_decide_eq_true (by assumption)) (by have h_ : (x11_1 : Int) < ((x10_1.length : Int) : Int) := of_decide_eq_true (by assumption); first | exact h_ | (have e_ := (Kd.R_reads' HO_10.out).1; omega) | simpa using h_) (seg := [.int .i64 (-1)]) (j := 0) hcl31 hcc31 (show 1 ≤ 2 from by decide) (x' := (⟨(-1), (rd_T62 x10_1 x11_1).f1⟩ : S62)) (k62_mkM _ _ _ (⟨(-1), (rd_T62 x10_1 x11_1).f1⟩ : S62) ) (fun _ hk => hk)
                  have hx31_0 := hcc31 0 _ rfl
                  (try simp only [show (k62).sz = 2 from rfl, Nat.mul_one, Nat.add_zero] at hx31_0)
                  have hf31_0 := hfr31 0
                  (try simp only [show (k62).sz = 2 from rfl, Nat.mul_one, Nat.add_zero] at hf31_0)
                  clear hcl31 hcc31 hfr31 hM31
                  go_wp2_with (first | ((with_reducible refine gate_store (t := 2) (p := 42) rfl ?_); (try (rw [drewN_self wr]; generalize hq_ : World.drewN wr _ = wr; have n0_ := Aside0.mk (Kd.R_at hq_ HO_9.out); have n1_ := Aside0.mk (Kd.R_at hq_ HO_10.out); have n3_ := Aside0.mk (blk_at hq_ BK159.out); have n4_ := Aside0.mk (below_at hq_ HB.out); clear hq_ HO_9 HO_10 BK159 HB; have HO_9 := n0_; have HO_10 := n1_; have BK159 := n3_; have HB := n4_; clear n0_ n1_ n3_ n4_; (try (have HX31 := Aside0.mk (show Kd.R k62 62 wr w.heap.size (fun _ => True) (.slice (some ⟨go29, 0, none⟩) x10_1.length co30) x10_1 from (by (with_reducible repeat (first | apply Kd.R_alloc | apply Kd.R_drewN | apply Kd.R_drew)); exact HO_10.out)))); (try (obtain ⟨ce31, hcl31, hM31, hcc31, hfr31⟩ := Kd.R_elem HX31.out z62 (x11_1 : Int) (of_decide_eq_true (by assumption)) (by have h_ : (x11_1 : Int) < ((x10_1.length : Int) : Int) := of_decide_eq_true (by assumption); first | exact h_ | (have e_ := (Kd.R_reads' HO_10.out).1; omega) | simpa using h_))); (try (obtain rfl := k62_openM hM31)); (try (have HP31 := Kd.R_seg HX31.out (x11_1 : Int) (of_decide_eq_true (by assumption)) (by have h_ : (x11_1 : Int) < ((x10_1.length : Int) : Int) := of_decide_eq_true (by assumption); first | exact h_ | (have e_ := (Kd.R_reads' HO_10.out).1; omega) | simpa using h_) (seg := [.int .i64 (-1)]) (j := 0) hcl31 hcc31 (show 1 ≤ 2 from by decide) (x' := (⟨(-1), (rd_T62 x10_1 x11_1).f1⟩ : S62)) (k62_mkM _ _ _ (⟨(-1), (rd_T62 x10_1 x11_1).f1⟩ : S62) ) (fun _ hk => hk))); (try (have hx31_0 := hcc31 0 _ rfl)); (try (try simp only [show (k62).sz = 2 from rfl, Nat.mul_one, Nat.add_zero] at hx31_0)); (try (have hf31_0 := hfr31 0)); (try (try simp only [show (k62).sz = 2 from rfl, Nat.mul_one, Nat.add_zero] at hf31_0)); (try (clear hcl31 hcc31 hfr31 hM31)))); refine store_event (t := 2) (p := 42) (v := ?vo_w32) (w1 := (wr.setCell ⟨go29, (x11_1 : Int).toNat * 2, none⟩ (.int .i64 (-1)))) ?hg ?ho ?hn ?hr ?_; (case ho => rfl); (case hg => rfl); (case hn => rfl); (case hr => first | (go_simp; done) | (go_simp; rfl)); intro w32 hw; have hg : wr.grownBy w32 (some go29) := (by rw [hw]; exact HP31.2); have hp_ : Kd.R k62 62 w32 w.heap.size (fun _ => True) (.slice (some ⟨go29, 0, none⟩) x10_1.length co30) y169 := (by rw [hw, Ny169.out]; exact HP31.1); clear HP31; have n0_ := Aside0.mk (Kd.R_over' (v := (.slice (some ⟨go29, 0, none⟩) x10_1.length co30)) (by (with_reducible repeat (first | apply Kd.R_alloc | apply Kd.R_drewN | apply Kd.R_drew)); exact HO_9.out) (Kd.R_typed HO_10.out) (by decide) hg); have n1_ := Aside0.mk (hp_); have n3_ := Aside0.mk (blk_grown (g := gb159) (by (with_reducible repeat (first | refine blk_drewN ?_ _ | refine blk_drew ?_ | refine blk_alloc ?_ _)); exact BK159.out) hg (Kd.R_ne HO_10.out BK159.out (by decide))); have n4_ := Aside0.mk ((by rw [hw]; exact below_set (HB.out) GB29.out : Below w.heap.size w w32)); clear HO_9; clear HO_10; clear BK159; clear HB; have HO_9 := n0_; have HO_10 := n1_; have BK159 := n3_; have HB := n4_; clear n0_ n1_ n3_ n4_; clear hg hw hp_))
                  go_loopg [45] k1 (fun kq v45 w' => ∃ (x10_2 : List (S62)) (x45_2 : Int), v45 = .int .i64 x45_2 ∧ Aside0 (impl_LeastTime.l1 kq t161 x10_2 x11_1 t161 (t161.length : Int) x45_2 a1_0 a1_1 = some (r1, r2)) ∧ Aside0 (kq ≤ k1) ∧ Aside0 (Kd.R (Kd.int .i64) 2 w' w.heap.size (fun _ => True) (.slice Ao24 t161.length co24) t161) ∧ Aside0 (Kd.R k62 62 w' w.heap.size (fun _ => True) (.slice (some ⟨go29, 0, none⟩) x10_1.length co30) x10_2) ∧ Aside0 (Kd.R (Kd.int .i64) 2 w' w.heap.size (fun _ => True) (.slice Ao24 t161.length co24) t161) ∧ Aside0 (w'.heap[gb159]? = some (.cells #[.int .i16 a1_0, .int .i8 a1_1] 31 (0, 0))) ∧ Aside0 (Below w.heap.size w w'))
                  case atStart => exact ⟨(y169), (0), (by first | rfl | (simp; done) | (simp [*]; done)), H', ⟨Nat.le_refl _⟩, ⟨by (with_reducible repeat (first | apply Kd.R_alloc | apply Kd.R_drewN | apply Kd.R_drew)); exact HO_9.out⟩, ⟨by (with_reducible repeat (first | apply Kd.R_alloc | apply Kd.R_drewN | apply Kd.R_drew)); exact HO_10.out⟩, ⟨by (with_reducible repeat (first | apply Kd.R_alloc | apply Kd.R_drewN | apply Kd.R_drew)); exact HO_9.out⟩, ⟨by (with_reducible repeat (first | refine blk_drewN ?_ _ | refine blk_drew ?_ | refine blk_alloc ?_ _)); exact BK159.out⟩, ⟨by repeat (first | (with_reducible first | exact HB.out | apply below_alloc | apply pw_below_drewN | apply below_drew1 | refine below_set ?_ GE158.out | refine below_set ?_ GE159.out) | exact HB.out)⟩⟩
                  case round =>
                    clear H'
                    try clear c1
                    try clear c2
                    try clear p2
                    try clear q2
                    try clear hx2
                    try clear c3
                    try clear hx3
                    try clear hf3
                    try clear c5
                    try clear c5b0
                    try clear c5b1
                    try clear p6
                    try clear c7
                    try clear c7b0
                    try clear c7b1
                    try clear c10
                    try clear c16
                    try clear c16b0
                    try clear c16b1
                    try clear c17
                    try clear c17b0
                    try clear c17b1
                    try clear c20
                    try clear c27
                    try clear c27b0
                    try clear c28
                    try clear c28b0
                    try clear c29
                    try clear p29
                    try clear q29
                    try clear hx29
                    try clear hf29
                    try clear c31
                    try clear hx31
                    try clear hf31
                    try clear hcz11_0
                    try clear hcz11_1
                    try clear hcz21_0
                    try clear hcz21_1
                    try clear hfz11_0
                    try clear hfz11_1
                    try clear hfz21_0
                    try clear hfz21_1
                    try clear hx29_0
                    try clear hx29_1
                    try clear hx31_0
                    try clear p2
                    try clear p29
                    try clear p6
                    try clear q29
                    obtain ⟨x10_2, x45_2, rfl, HA, HK2, HO_9, HO_10, HO_43, BK159, HB⟩ := hrel
                    have hl10_2 := (Kd.R_reads' HO_10.out).1
                    rw [hl10_2] at HO_10
                    (try simp only [hl10_2])
                    (try simp only [hl10_2] at BK159)
                    (try simp only [hl10_2] at HO_9)
                    (try simp only [hl10_2] at HO_43)
                    cases gk with
                    | zero => exact absurd HA.out (by simp [impl_LeastTime.l1])
                    | succ k2 =>
                      have H := HA.out
                      clear HA
                      simp only [impl_LeastTime.l1] at H
                      by_cases c33 : x45_2 < (t161.length : Int)
                      · rw [if_pos c33] at H
                        have c33b0 : decide (x45_2 < (t161.length : Int)) = true := decide_eq_true c33
                        clear c33
                        by_cases c34 : 0 ≤ x45_2
                        · rw [if_pos c34] at H
                          have c34b0 : decide (0 ≤ x45_2) = true := decide_eq_true c34
                          clear c34
                          by_cases c35 : x45_2 < (t161.length : Int)
                          · rw [if_pos c35] at H
                            have c35b0 : decide (x45_2 < (t161.length : Int)) = true := decide_eq_true c35
                            clear c35
                            have c36b0 := eq_true (of_decide_eq_true (by assumption) : 0 ≤ x45_2)
                            obtain ⟨ji37, hji37⟩ : ∃ j_ : Int, (shr .i64 x11_1 x45_2) = j_ := ⟨_, rfl⟩
                            replace H : (if (Go.bits .and .i64 (ji37) 1) = 0 then (impl_LeastTime.l1 k2 t161 x10_2 x11_1 t161 (t161.length : Int) (wrap64 (x45_2 + 1)) a1_0 a1_1) else (if 0 ≤ (Go.bits .andNot .i64 x11_1 (shl .i64 1 x45_2)) then (if (Go.bits .andNot .i64 x11_1 (shl .i64 1 x45_2)) < (x10_2.length : Int) then (if (wrap64 (((rd_T62 x10_2 (Go.bits .andNot .i64 x11_1 (shl .i64 1 x45_2))).f1) + (rd t161 x45_2))) > (wrap64 (a1_0)) then (if 0 ≤ x11_1 then (if x11_1 < (x10_2.length : Int) then (if ((rd_T62 x10_2 x11_1).f0) < 0 then (impl_LeastTime.l1 k2 t161 (x10_2.set (x11_1 : Int).toNat (⟨wrap64 (((rd_T62 x10_2 (Go.bits .andNot .i64 x11_1 (shl .i64 1 x45_2))).f0) + 1), wrap64 (0 + (rd t161 x45_2))⟩ : S62)) x11_1 t161 (t161.length : Int) (wrap64 (x45_2 + 1)) a1_0 a1_1) else (if (wrap64 (((rd_T62 x10_2 (Go.bits .andNot .i64 x11_1 (shl .i64 1 x45_2))).f0) + 1)) < ((rd_T62 x10_2 x11_1).f0) then (impl_LeastTime.l1 k2 t161 (x10_2.set (x11_1 : Int).toNat (⟨wrap64 (((rd_T62 x10_2 (Go.bits .andNot .i64 x11_1 (shl .i64 1 x45_2))).f0) + 1), wrap64 (0 + (rd t161 x45_2))⟩ : S62)) x11_1 t161 (t161.length : Int) (wrap64 (x45_2 + 1)) a1_0 a1_1) else (if (wrap64 (((rd_T62 x10_2 (Go.bits .andNot .i64 x11_1 (shl .i64 1 x45_2))).f0) + 1)) = ((rd_T62 x10_2 x11_1).f0) then (if (wrap64 (0 + (rd t161 x45_2))) < ((rd_T62 x10_2 x11_1).f1) then (impl_LeastTime.l1 k2 t161 (x10_2.set (x11_1 : Int).toNat (⟨wrap64 (((rd_T62 x10_2 (Go.bits .andNot .i64 x11_1 (shl .i64 1 x45_2))).f0) + 1), wrap64 (0 + (rd t161 x45_2))⟩ : S62)) x11_1 t161 (t161.length : Int) (wrap64 (x45_2 + 1)) a1_0 a1_1) else (impl_LeastTime.l1 k2 t161 x10_2 x11_1 t161 (t161.length : Int) (wrap64 (x45_2 + 1)) a1_0 a1_1)) else (impl_LeastTime.l1 k2 t161 x10_2 x11_1 t161 (t161.length : Int) (wrap64 (x45_2 + 1)) a1_0 a1_1)))) else (none)) else (none)) else (if 0 ≤ x11_1 then (if x11_1 < (x10_2.length : Int) then (if ((rd_T62 x10_2 x11_1).f0) < 0 then (impl_LeastTime.l1 k2 t161 (x10_2.set (x11_1 : Int).toNat (⟨(rd_T62 x10_2 (Go.bits .andNot .i64 x11_1 (shl .i64 1 x45_2))).f0, wrap64 (((rd_T62 x10_2 (Go.bits .andNot .i64 x11_1 (shl .i64 1 x45_2))).f1) + (rd t161 x45_2))⟩ : S62)) x11_1 t161 (t161.length : Int) (wrap64 (x45_2 + 1)) a1_0 a1_1) else (if ((rd_T62 x10_2 (Go.bits .andNot .i64 x11_1 (shl .i64 1 x45_2))).f0) < ((rd_T62 x10_2 x11_1).f0) then (impl_LeastTime.l1 k2 t161 (x10_2.set (x11_1 : Int).toNat (⟨(rd_T62 x10_2 (Go.bits .andNot .i64 x11_1 (shl .i64 1 x45_2))).f0, wrap64 (((rd_T62 x10_2 (Go.bits .andNot .i64 x11_1 (shl .i64 1 x45_2))).f1) + (rd t161 x45_2))⟩ : S62)) x11_1 t161 (t161.length : Int) (wrap64 (x45_2 + 1)) a1_0 a1_1) else (if ((rd_T62 x10_2 (Go.bits .andNot .i64 x11_1 (shl .i64 1 x45_2))).f0) = ((rd_T62 x10_2 x11_1).f0) then (if (wrap64 (((rd_T62 x10_2 (Go.bits .andNot .i64 x11_1 (shl .i64 1 x45_2))).f1) + (rd t161 x45_2))) < ((rd_T62 x10_2 x11_1).f1) then (impl_LeastTime.l1 k2 t161 (x10_2.set (x11_1 : Int).toNat (⟨(rd_T62 x10_2 (Go.bits .andNot .i64 x11_1 (shl .i64 1 x45_2))).f0, wrap64 (((rd_T62 x10_2 (Go.bits .andNot .i64 x11_1 (shl .i64 1 x45_2))).f1) + (rd t161 x45_2))⟩ : S62)) x11_1 t161 (t161.length : Int) (wrap64 (x45_2 + 1)) a1_0 a1_1) else (impl_LeastTime.l1 k2 t161 x10_2 x11_1 t161 (t161.length : Int) (wrap64 (x45_2 + 1)) a1_0 a1_1)) else (impl_LeastTime.l1 k2 t161 x10_2 x11_1 t161 (t161.length : Int) (wrap64 (x45_2 + 1)) a1_0 a1_1)))) else (none)) else (none))) else (none)) else (none))) = some (r1, r2) := by first | (rw [hji37] at H; exact H) | (simp only [hji37] at H ⊢; exact H)
                            have hji37_ : (x11_1 / 2 ^ min x45_2.toNat 64) = ji37 := hji37
                            have hji37z : x45_2 ≤ 64 → (x11_1 / 2 ^ x45_2.toNat) = ji37 := shr_small hji37
                            by_cases c38 : (Go.bits .and .i64 (ji37) 1) = 0
                            · rw [if_pos c38] at H
                              have c38b0 : ((Go.bits .and .i64 (ji37) 1) == 0) = true := beq_iff_eq.mpr c38
                              have c38b1 : ((Go.bits .and .i64 (ji37) 1) != 0) = false := bne_eq_false_iff_eq.mpr c38
                              clear c38
                              have H' := Aside0.mk H
                              clear H
                              have p170 : 0 ≤ (x45_2 : Int) := of_decide_eq_true (by assumption)
                              have q170 : x45_2 < (t161.length : Int) := of_decide_eq_true (by assumption)
                              obtain ⟨ad170, e170, hx170_0⟩ := Kd.at_int (Kd.R_reads' HO_43.out).2.2 x45_2 p170 q170
                              cases e170
                              replace p170 := eq_true p170
                              replace q170 := eq_true q170
                              go_wp2
                              repeat (go_quiet (fail); try go_wp2)
                              (try simp only [← hl10_2])
                              go_roundg k2
                              case measure => have := HK1.out; have := HK2.out; omega
                              case rel => exact ⟨(x10_2), (wrap64 (x45_2 + 1)), (by first | rfl | (simp; done) | (simp [*]; done)), H', ⟨by have := HK1.out; have := HK2.out; omega⟩, ⟨by (try simp only [hl10_2]); (with_reducible repeat (first | apply Kd.R_alloc | apply Kd.R_drewN | apply Kd.R_drew)); exact HO_9.out⟩, ⟨by (try simp only [hl10_2]); (with_reducible repeat (first | apply Kd.R_alloc | apply Kd.R_drewN | apply Kd.R_drew)); exact HO_10.out⟩, ⟨by (try simp only [hl10_2]); (with_reducible repeat (first | apply Kd.R_alloc | apply Kd.R_drewN | apply Kd.R_drew)); exact HO_43.out⟩, ⟨by (try simp only [hl10_2]); (with_reducible repeat (first | refine blk_drewN ?_ _ | refine blk_drew ?_ | refine blk_alloc ?_ _)); exact BK159.out⟩, ⟨by repeat (first | (with_reducible first | exact HB.out | apply below_alloc | apply pw_below_drewN | apply below_drew1 | refine below_set ?_ GE158.out | refine below_set ?_ GE159.out) | exact HB.out)⟩⟩
                            · rw [if_neg c38] at H
                              have c38b0 : ((Go.bits .and .i64 (ji37) 1) == 0) = false := beq_eq_false_iff_ne.mpr c38
                              have c38b1 : ((Go.bits .and .i64 (ji37) 1) != 0) = true := bne_iff_ne.mpr c38
                              have c39b0 := eq_true (of_decide_eq_true (by assumption) : 0 ≤ x45_2)
                              obtain ⟨ji40, hji40⟩ : ∃ j_ : Int, (shl .i64 1 x45_2) = j_ := ⟨_, rfl⟩
                              replace H : (if 0 ≤ (Go.bits .andNot .i64 x11_1 (ji40)) then (if (Go.bits .andNot .i64 x11_1 (ji40)) < (x10_2.length : Int) then (if (wrap64 (((rd_T62 x10_2 (Go.bits .andNot .i64 x11_1 (ji40))).f1) + (rd t161 x45_2))) > (wrap64 (a1_0)) then (if 0 ≤ x11_1 then (if x11_1 < (x10_2.length : Int) then (if ((rd_T62 x10_2 x11_1).f0) < 0 then (impl_LeastTime.l1 k2 t161 (x10_2.set (x11_1 : Int).toNat (⟨wrap64 (((rd_T62 x10_2 (Go.bits .andNot .i64 x11_1 (ji40))).f0) + 1), wrap64 (0 + (rd t161 x45_2))⟩ : S62)) x11_1 t161 (t161.length : Int) (wrap64 (x45_2 + 1)) a1_0 a1_1) else (if (wrap64 (((rd_T62 x10_2 (Go.bits .andNot .i64 x11_1 (ji40))).f0) + 1)) < ((rd_T62 x10_2 x11_1).f0) then (impl_LeastTime.l1 k2 t161 (x10_2.set (x11_1 : Int).toNat (⟨wrap64 (((rd_T62 x10_2 (Go.bits .andNot .i64 x11_1 (ji40))).f0) + 1), wrap64 (0 + (rd t161 x45_2))⟩ : S62)) x11_1 t161 (t161.length : Int) (wrap64 (x45_2 + 1)) a1_0 a1_1) else (if (wrap64 (((rd_T62 x10_2 (Go.bits .andNot .i64 x11_1 (ji40))).f0) + 1)) = ((rd_T62 x10_2 x11_1).f0) then (if (wrap64 (0 + (rd t161 x45_2))) < ((rd_T62 x10_2 x11_1).f1) then (impl_LeastTime.l1 k2 t161 (x10_2.set (x11_1 : Int).toNat (⟨wrap64 (((rd_T62 x10_2 (Go.bits .andNot .i64 x11_1 (ji40))).f0) + 1), wrap64 (0 + (rd t161 x45_2))⟩ : S62)) x11_1 t161 (t161.length : Int) (wrap64 (x45_2 + 1)) a1_0 a1_1) else (impl_LeastTime.l1 k2 t161 x10_2 x11_1 t161 (t161.length : Int) (wrap64 (x45_2 + 1)) a1_0 a1_1)) else (impl_LeastTime.l1 k2 t161 x10_2 x11_1 t161 (t161.length : Int) (wrap64 (x45_2 + 1)) a1_0 a1_1)))) else (none)) else (none)) else (if 0 ≤ x11_1 then (if x11_1 < (x10_2.length : Int) then (if ((rd_T62 x10_2 x11_1).f0) < 0 then (impl_LeastTime.l1 k2 t161 (x10_2.set (x11_1 : Int).toNat (⟨(rd_T62 x10_2 (Go.bits .andNot .i64 x11_1 (ji40))).f0, wrap64 (((rd_T62 x10_2 (Go.bits .andNot .i64 x11_1 (ji40))).f1) + (rd t161 x45_2))⟩ : S62)) x11_1 t161 (t161.length : Int) (wrap64 (x45_2 + 1)) a1_0 a1_1) else (if ((rd_T62 x10_2 (Go.bits .andNot .i64 x11_1 (ji40))).f0) < ((rd_T62 x10_2 x11_1).f0) then (impl_LeastTime.l1 k2 t161 (x10_2.set (x11_1 : Int).toNat (⟨(rd_T62 x10_2 (Go.bits .andNot .i64 x11_1 (ji40))).f0, wrap64 (((rd_T62 x10_2 (Go.bits .andNot .i64 x11_1 (ji40))).f1) + (rd t161 x45_2))⟩ : S62)) x11_1 t161 (t161.length : Int) (wrap64 (x45_2 + 1)) a1_0 a1_1) else (if ((rd_T62 x10_2 (Go.bits .andNot .i64 x11_1 (ji40))).f0) = ((rd_T62 x10_2 x11_1).f0) then (if (wrap64 (((rd_T62 x10_2 (Go.bits .andNot .i64 x11_1 (ji40))).f1) + (rd t161 x45_2))) < ((rd_T62 x10_2 x11_1).f1) then (impl_LeastTime.l1 k2 t161 (x10_2.set (x11_1 : Int).toNat (⟨(rd_T62 x10_2 (Go.bits .andNot .i64 x11_1 (ji40))).f0, wrap64 (((rd_T62 x10_2 (Go.bits .andNot .i64 x11_1 (ji40))).f1) + (rd t161 x45_2))⟩ : S62)) x11_1 t161 (t161.length : Int) (wrap64 (x45_2 + 1)) a1_0 a1_1) else (impl_LeastTime.l1 k2 t161 x10_2 x11_1 t161 (t161.length : Int) (wrap64 (x45_2 + 1)) a1_0 a1_1)) else (impl_LeastTime.l1 k2 t161 x10_2 x11_1 t161 (t161.length : Int) (wrap64 (x45_2 + 1)) a1_0 a1_1)))) else (none)) else (none))) else (none)) else (none)) = some (r1, r2) := by first | (rw [hji40] at H; exact H) | (simp only [hji40] at H ⊢; exact H)
                              have hji40_ : (IntKind.i64.wrap (1 * 2 ^ min x45_2.toNat 64)) = ji40 := hji40
                              have hji40z : x45_2 ≤ 64 → (IntKind.i64.wrap (1 * 2 ^ x45_2.toNat)) = ji40 := shl_small hji40
                              have hji40u : (IntKind.i64.wrap (2 ^ min x45_2.toNat 64)) = ji40 := by have h_ := hji40_; rw [Int.one_mul] at h_; exact h_
                              have hji40v : x45_2 ≤ 64 → (IntKind.i64.wrap (2 ^ x45_2.toNat)) = ji40 := fun hle_ => by have h_ := hji40z hle_; rw [Int.one_mul] at h_; exact h_
                              have hji40y : (wrap64 (1 * 2 ^ min x45_2.toNat 64)) = ji40 := (i64_w _).symm.trans hji40_
                              have hji40x : x45_2 ≤ 64 → (wrap64 (1 * 2 ^ x45_2.toNat)) = ji40 := fun h_ => (i64_w _).symm.trans (hji40z h_)
                              by_cases c41 : 0 ≤ (Go.bits .andNot .i64 x11_1 (ji40))
                              · rw [if_pos c41] at H
                                have c41b0 : decide (0 ≤ (Go.bits .andNot .i64 x11_1 (ji40))) = true := decide_eq_true c41
                                clear c41
                                by_cases c42 : (Go.bits .andNot .i64 x11_1 (ji40)) < (x10_2.length : Int)
                                · rw [if_pos c42] at H
                                  have c42b0 : decide ((Go.bits .andNot .i64 x11_1 (ji40)) < (x10_2.length : Int)) = true := decide_eq_true c42
                                  clear c42
                                  obtain ⟨T, hT⟩ : ∃ T : Int → Int → Option (Int × Int), T = fun o0 o1 => (if 0 ≤ x11_1 then (if x11_1 < (x10_2.length : Int) then (if ((rd_T62 x10_2 x11_1).f0) < 0 then (impl_LeastTime.l1 k2 t161 (x10_2.set (x11_1 : Int).toNat (⟨o0, o1⟩ : S62)) x11_1 t161 (t161.length : Int) (wrap64 (x45_2 + 1)) a1_0 a1_1) else (if o0 < ((rd_T62 x10_2 x11_1).f0) then (impl_LeastTime.l1 k2 t161 (x10_2.set (x11_1 : Int).toNat (⟨o0, o1⟩ : S62)) x11_1 t161 (t161.length : Int) (wrap64 (x45_2 + 1)) a1_0 a1_1) else (if o0 = ((rd_T62 x10_2 x11_1).f0) then (if o1 < ((rd_T62 x10_2 x11_1).f1) then (impl_LeastTime.l1 k2 t161 (x10_2.set (x11_1 : Int).toNat (⟨o0, o1⟩ : S62)) x11_1 t161 (t161.length : Int) (wrap64 (x45_2 + 1)) a1_0 a1_1) else (impl_LeastTime.l1 k2 t161 x10_2 x11_1 t161 (t161.length : Int) (wrap64 (x45_2 + 1)) a1_0 a1_1)) else (impl_LeastTime.l1 k2 t161 x10_2 x11_1 t161 (t161.length : Int) (wrap64 (x45_2 + 1)) a1_0 a1_1)))) else (none)) else (none)) := ⟨_, rfl⟩
                                  have p170 : 0 ≤ (x45_2 : Int) := of_decide_eq_true (by assumption)
                                  have q170 : x45_2 < (t161.length : Int) := of_decide_eq_true (by assumption)
                                  obtain ⟨ad170, e170, hx170_0⟩ := Kd.at_int (Kd.R_reads' HO_43.out).2.2 x45_2 p170 q170
                                  cases e170
                                  have p171 : 0 ≤ ((Go.bits .andNot .i64 x11_1 (ji40)) : Int) := of_decide_eq_true (by assumption)
                                  have q171 : (Go.bits .andNot .i64 x11_1 (ji40)) < (x10_2.length : Int) := of_decide_eq_true (by assumption)
                                  obtain ⟨ad171, e171, hx171_0, hx171_1⟩ := at_T62 (Kd.R_reads' HO_10.out).2.2 (Go.bits .andNot .i64 x11_1 (ji40)) p171 q171
                                  obtain rfl : (⟨go29, 0, none⟩ : Addr) = ad171 := (by injection e171)
                                  (first | simp only [add_plain] at hx171_0 | simp only [add_at] at hx171_0 | simp only [Addr.add, Nat.zero_add] at hx171_0 | skip)
                                  (first | simp only [add_plain] at hx171_1 | simp only [add_at] at hx171_1 | simp only [Addr.add, Nat.zero_add] at hx171_1 | skip)
                                  have H2 : (if (wrap64 (((rd_T62 x10_2 (Go.bits .andNot .i64 x11_1 (ji40))).f1) + (rd t161 x45_2))) > (wrap64 (a1_0)) then T (wrap64 (((rd_T62 x10_2 (Go.bits .andNot .i64 x11_1 (ji40))).f0) + 1)) (wrap64 (0 + (rd t161 x45_2))) else T ((rd_T62 x10_2 (Go.bits .andNot .i64 x11_1 (ji40))).f0) (wrap64 (((rd_T62 x10_2 (Go.bits .andNot .i64 x11_1 (ji40))).f1) + (rd t161 x45_2)))) = some (r1, r2) := by rw [hT]; exact H
                                  clear H
                                  have c44b0 : decide (0 ≤ x11_1) = true := decide_eq_true (Decidable.byContradiction fun hc => absurd H2 (by subst hT; simp only [if_neg hc, ite_self]; first | (split <;> simp; done) | (simp; done)))
                                  have c45b0 : decide (x11_1 < (x10_2.length : Int)) = true := decide_eq_true (Decidable.byContradiction fun hc => absurd H2 (by subst hT; simp only [if_neg hc, ite_self]; first | (split <;> simp; done) | (simp; done)))
                                  obtain ⟨F0, hF0⟩ : ∃ F0, (rd_T62 x10_2 (Go.bits .andNot .i64 x11_1 (ji40))).f0 = F0 := ⟨_, rfl⟩
                                  obtain ⟨F1, hF1⟩ : ∃ F1, (rd_T62 x10_2 (Go.bits .andNot .i64 x11_1 (ji40))).f1 = F1 := ⟨_, rfl⟩
                                  obtain ⟨n0, hn0⟩ : ∃ n0, rd t161 x45_2 = n0 := ⟨_, rfl⟩
                                  rw [hF0] at hx171_0 H2
                                  rw [hF1] at hx171_1 H2
                                  rw [hn0] at hx170_0 H2
                                  clear hF0 hF1 hn0
                                  have HT := Aside0.mk hT
                                  have HH := Aside0.mk H2
                                  clear hT H2 HO_43
                                  replace p170 := eq_true p170
                                  replace q170 := eq_true q170
                                  replace p171 := eq_true p171
                                  replace q171 := eq_true q171
                                  go_upto_if 69 with (first | ((with_reducible refine gate_dst (N := 14) rfl ?_); refine box_event ?hg (N := 14) ?hd (cs := #[.int .i64 0, .int .i64 0]) (t := 62) ?hr ?_; (case hd => rfl); (case hg => rfl); (case hr => first | (go_simp; done) | (go_simp; rfl)); intro gb172 hg w48 hbox hb; have n0_ := Aside0.mk (Kd.R_below HO_9.out hb); have n1_ : Aside0 (Kd.R k62 62 w48 w.heap.size (fun k_ => k_ ≠ gb172) (.slice (some ⟨go29, 0, none⟩) x10_2.length co30) x10_2) := ⟨Kd.R_mono (Kd.R_below (Kd.R_elderB HO_10.out gb172 (Nat.le_of_eq hg.symm)) hb) (fun _ hk => hk.2)⟩; have n4_ := Aside0.mk (blk_below (g := gb159) BK159.out hb); have n5_ := Aside0.mk (below_step (by repeat (first | (with_reducible first | exact HB.out | apply below_alloc | apply pw_below_drewN | apply below_drew1 | refine below_set ?_ GE158.out | refine below_set ?_ GE159.out) | exact HB.out)) hb); have n6_ := Aside0.mk hbox; have n8_ : Aside0 (w.heap.size ≤ gb172) := ⟨by rw [hg]; exact below_size (by repeat (first | (with_reducible first | exact HB.out | apply below_alloc | apply pw_below_drewN | apply below_drew1 | refine below_set ?_ GE158.out | refine below_set ?_ GE159.out) | exact HB.out))⟩; have n11_ : Aside0 (gb159 ≠ gb172) := ⟨by rw [hg]; exact Nat.ne_of_lt (blk_lt (g := gb159) BK159.out)⟩; have n12_ : Aside0 (gb172 ≠ gb159) := ⟨Ne.symm n11_.out⟩; clear HO_9; clear HO_10; clear BK159; clear HB; have HO_9 := n0_; have HO_10 := n1_; have BK159 := n4_; have HB := n5_; have BK172 := n6_; have GE172 := n8_; have NB159_172 := n11_; have NB172_159 := n12_; clear n0_ n1_ n4_ n5_ n6_ n8_ n11_ n12_; clear hb hbox hg hx171_0 hx171_1; have hcz51_0 : w48.cell? ⟨gb172, 0, none⟩ = some (.int .i64 0) := (blk_cell BK172.out 0).trans rfl; have hcz51_1 : w48.cell? ⟨gb172, 1, none⟩ = some (.int .i64 0) := (blk_cell BK172.out 1).trans rfl; have hfz51_0 := blk_frozen BK172.out 0; have hfz51_1 := blk_frozen BK172.out 1) | ((with_reducible refine gate_store (t := 62) (p := 14) rfl ?_); refine store_event (t := 62) (p := 14) (v := ?vo_w49) (w1 := ((w48.setCell ⟨gb172, 0, none⟩ (.int .i64 F0)).setCell ⟨gb172, 1, none⟩ (.int .i64 F1))) ?hg ?ho ?hn ?hr ?_; (case ho => rfl); (case hg => rfl); (case hn => rfl); (case hr => first | (go_simp; done) | (go_simp; rfl)); intro w49 hw; have n0_ : Aside0 (Kd.R (Kd.int .i64) 2 w49 w.heap.size (fun _ => True) (.slice (some ad170) t161.length co24) t161) := ⟨by rw [hw]; exact Kd.R_mono (Kd.R_far (p := ⟨gb172, 1, none⟩) (Kd.R_far (p := ⟨gb172, 0, none⟩) (Kd.R_types HO_9.out BK172.out (by decide)) (fun _ hk => hk.2) (.int .i64 F0)) (fun _ hk => hk.2) (.int .i64 F1)) (fun _ hk => trivial)⟩; have n1_ : Aside0 (Kd.R k62 62 w49 w.heap.size (fun k_ => k_ ≠ gb172) (.slice (some ⟨go29, 0, none⟩) x10_2.length co30) x10_2) := ⟨by rw [hw]; exact Kd.R_mono (Kd.R_far (p := ⟨gb172, 1, none⟩) (Kd.R_far (p := ⟨gb172, 0, none⟩) (Kd.R_mono HO_10.out (fun k_ hk => (⟨hk, hk⟩ : _ ∧ k_ ≠ gb172))) (fun _ hk => hk.2) (.int .i64 F0)) (fun _ hk => hk.2) (.int .i64 F1)) (fun _ hk => hk.2)⟩; have n4_ : Aside0 (w49.heap[gb159]? = some (.cells #[.int .i16 a1_0, .int .i8 a1_1] 31 (0, 0))) := ⟨by rw [hw]; refine blk_far ?_ NB159_172.out _; refine blk_far ?_ NB159_172.out _; exact BK159.out⟩; have n5_ : Aside0 (w49.heap[gb172]? = some (.cells #[.int .i64 F0, .int .i64 F1] 62 (0, 0))) := ⟨by rw [hw]; refine blk_put (cs := #[.int .i64 F0, .int .i64 0]) ?_ 1 _ rfl; refine blk_put (cs := #[.int .i64 0, .int .i64 0]) ?_ 0 _ rfl; exact BK172.out⟩; have n7_ : Aside0 (Below w.heap.size w w49) := ⟨by rw [hw]; exact (by repeat (first | (with_reducible first | exact HB.out | apply below_alloc | apply pw_below_drewN | apply below_drew1 | refine below_set ?_ GE158.out | refine below_set ?_ GE159.out | refine below_set ?_ GE172.out) | exact HB.out))⟩; clear hw hcz51_0 hcz51_1 hfz51_0 hfz51_1; clear HO_9; clear HO_10; clear BK159; clear BK172; clear HB; have HO_9 := n0_; have HO_10 := n1_; have BK159 := n4_; have BK172 := n5_; have HB := n7_; clear n0_ n1_ n4_ n5_ n7_; have hcz52_0 : w49.cell? ⟨gb172, 0, none⟩ = some (.int .i64 F0) := (blk_cell BK172.out 0).trans rfl; have hcz52_1 : w49.cell? ⟨gb172, 1, none⟩ = some (.int .i64 F1) := (blk_cell BK172.out 1).trans rfl; have hfz52_0 := blk_frozen BK172.out 0; have hfz52_1 := blk_frozen BK172.out 1; have hcz53_0 : w49.cell? ⟨gb159, 0, none⟩ = some (.int .i16 a1_0) := (blk_cell BK159.out 0).trans rfl; have hcz53_1 : w49.cell? ⟨gb159, 1, none⟩ = some (.int .i8 a1_1) := (blk_cell BK159.out 1).trans rfl))
                                  clear hcz53_0 hcz53_1
                                  go_cut [14] (fun v14 wc => ∃ o0 u : Int, v14 = .pointer (some ⟨gb172, 0, none⟩) ∧ Aside0 (T o0 (wrap64 (u + n0)) = some (r1, r2)) ∧ Aside0 (Kd.R (Kd.int .i64) 2 wc w.heap.size (fun _ => True) (.slice (some ad170) t161.length co24) t161) ∧ Aside0 (Kd.R k62 62 wc w.heap.size (fun k_ => k_ ≠ gb172) (.slice (some ⟨go29, 0, none⟩) x10_2.length co30) x10_2) ∧ Aside0 (wc.heap[gb159]? = some (.cells #[.int .i16 a1_0, .int .i8 a1_1] 31 (0, 0))) ∧ Aside0 (wc.heap[gb172]? = some (.cells #[.int .i64 o0, .int .i64 u] 62 (0, 0))) ∧ Aside0 (Below w.heap.size w wc))
                                  case first =>
                                    by_cases c43 : (wrap64 (F1 + n0)) > (wrap64 (a1_0))
                                    · have H3 := HH.out
                                      rw [if_pos c43] at H3
                                      have HS := Aside0.mk H3
                                      clear H3 HH
                                      have c43b0 : decide ((wrap64 (a1_0)) < (wrap64 (F1 + n0))) = true := decide_eq_true c43
                                      clear c43
                                      rw [c43b0]
                                      go_wp2_with (first | ((with_reducible refine gate_store (t := 62) (p := 14) rfl ?_); refine store_event (t := 62) (p := 14) (v := ?vo_w50) (w1 := ((w49.setCell ⟨gb172, 0, none⟩ (.int .i64 (wrap64 (F0 + 1)))).setCell ⟨gb172, 1, none⟩ (.int .i64 0))) ?hg ?ho ?hn ?hr ?_; (case ho => rfl); (case hg => rfl); (case hn => rfl); (case hr => first | (go_simp; done) | (go_simp; rfl)); intro w50 hw; have n0_ : Aside0 (Kd.R (Kd.int .i64) 2 w50 w.heap.size (fun _ => True) (.slice (some ad170) t161.length co24) t161) := ⟨by rw [hw]; exact Kd.R_mono (Kd.R_far (p := ⟨gb172, 1, none⟩) (Kd.R_far (p := ⟨gb172, 0, none⟩) (Kd.R_types HO_9.out BK172.out (by decide)) (fun _ hk => hk.2) (.int .i64 (wrap64 (F0 + 1)))) (fun _ hk => hk.2) (.int .i64 0)) (fun _ hk => trivial)⟩; have n1_ : Aside0 (Kd.R k62 62 w50 w.heap.size (fun k_ => k_ ≠ gb172) (.slice (some ⟨go29, 0, none⟩) x10_2.length co30) x10_2) := ⟨by rw [hw]; exact Kd.R_mono (Kd.R_far (p := ⟨gb172, 1, none⟩) (Kd.R_far (p := ⟨gb172, 0, none⟩) (Kd.R_mono HO_10.out (fun k_ hk => (⟨hk, hk⟩ : _ ∧ k_ ≠ gb172))) (fun _ hk => hk.2) (.int .i64 (wrap64 (F0 + 1)))) (fun _ hk => hk.2) (.int .i64 0)) (fun _ hk => hk.2)⟩; have n4_ : Aside0 (w50.heap[gb159]? = some (.cells #[.int .i16 a1_0, .int .i8 a1_1] 31 (0, 0))) := ⟨by rw [hw]; refine blk_far ?_ NB159_172.out _; refine blk_far ?_ NB159_172.out _; exact BK159.out⟩; have n5_ : Aside0 (w50.heap[gb172]? = some (.cells #[.int .i64 (wrap64 (F0 + 1)), .int .i64 0] 62 (0, 0))) := ⟨by rw [hw]; refine blk_put (cs := #[.int .i64 (wrap64 (F0 + 1)), .int .i64 F1]) ?_ 1 _ rfl; refine blk_put (cs := #[.int .i64 F0, .int .i64 F1]) ?_ 0 _ rfl; exact BK172.out⟩; have n7_ : Aside0 (Below w.heap.size w w50) := ⟨by rw [hw]; exact (by repeat (first | (with_reducible first | exact HB.out | apply below_alloc | apply pw_below_drewN | apply below_drew1 | refine below_set ?_ GE158.out | refine below_set ?_ GE159.out | refine below_set ?_ GE172.out) | exact HB.out))⟩; clear hw hcz52_0 hcz52_1 hfz52_0 hfz52_1; clear HO_9; clear HO_10; clear BK159; clear BK172; clear HB; have HO_9 := n0_; have HO_10 := n1_; have BK159 := n4_; have BK172 := n5_; have HB := n7_; clear n0_ n1_ n4_ n5_ n7_))
                                      go_meet
                                      case rel => exact ⟨wrap64 (F0 + 1), 0, rfl, HS, HO_9, HO_10, BK159, BK172, HB⟩
                                    · have H3 := HH.out
                                      rw [if_neg c43] at H3
                                      have HS := Aside0.mk H3
                                      clear H3 HH
                                      have c43b0 : decide ((wrap64 (a1_0)) < (wrap64 (F1 + n0))) = false := decide_eq_false c43
                                      clear c43
                                      rw [c43b0]
                                      go_wp2_with fail
                                      go_meet
                                      case rel => exact ⟨F0, F1, rfl, HS, HO_9, HO_10, BK159, BK172, HB⟩
                                  case rest =>
                                    clear hcz52_0 hcz52_1 hfz52_0 hfz52_1 HO_9 HO_10 BK159 BK172 HB HH
                                    obtain ⟨o0, u, rfl, HS, HO_9, HO_10, BK159, BK172, HB⟩ := hcut
                                    have hcz54_0 : wc.cell? ⟨gb172, 0, none⟩ = some (.int .i64 o0) := (blk_cell BK172.out 0).trans rfl; have hcz54_1 : wc.cell? ⟨gb172, 1, none⟩ = some (.int .i64 u) := (blk_cell BK172.out 1).trans rfl
                                    have hfz54_0 := blk_frozen BK172.out 0; have hfz54_1 := blk_frozen BK172.out 1
                                    go_upto_region 21 with (first | ((with_reducible refine gate_store (t := 2) (p := 78) rfl ?_); refine store_event (t := 2) (p := 78) (v := ?vo_w51) (w1 := (wc.setCell ⟨gb172, 1, none⟩ (.int .i64 (wrap64 (u + n0))))) ?hg ?ho ?hn ?hr ?_; (case ho => rfl); (case hg => rfl); (case hn => rfl); (case hr => first | (go_simp; done) | (go_simp; rfl)); intro w51 hw; have n0_ : Aside0 (Kd.R (Kd.int .i64) 2 w51 w.heap.size (fun _ => True) (.slice (some ad170) t161.length co24) t161) := ⟨by rw [hw]; exact Kd.R_mono (Kd.R_far (p := ⟨gb172, 1, none⟩) (Kd.R_types HO_9.out BK172.out (by decide)) (fun _ hk => hk.2) (.int .i64 (wrap64 (u + n0)))) (fun _ hk => trivial)⟩; have n1_ : Aside0 (Kd.R k62 62 w51 w.heap.size (fun k_ => k_ ≠ gb172) (.slice (some ⟨go29, 0, none⟩) x10_2.length co30) x10_2) := ⟨by rw [hw]; exact Kd.R_mono (Kd.R_far (p := ⟨gb172, 1, none⟩) (Kd.R_mono HO_10.out (fun k_ hk => (⟨hk, hk⟩ : _ ∧ k_ ≠ gb172))) (fun _ hk => hk.2) (.int .i64 (wrap64 (u + n0)))) (fun _ hk => hk.2)⟩; have n4_ : Aside0 (w51.heap[gb159]? = some (.cells #[.int .i16 a1_0, .int .i8 a1_1] 31 (0, 0))) := ⟨by rw [hw]; refine blk_far ?_ NB159_172.out _; exact BK159.out⟩; have n5_ : Aside0 (w51.heap[gb172]? = some (.cells #[.int .i64 o0, .int .i64 (wrap64 (u + n0))] 62 (0, 0))) := ⟨by rw [hw]; refine blk_put (cs := #[.int .i64 o0, .int .i64 u]) ?_ 1 _ rfl; exact BK172.out⟩; have n7_ : Aside0 (Below w.heap.size w w51) := ⟨by rw [hw]; exact (by repeat (first | (with_reducible first | exact HB.out | apply below_alloc | apply pw_below_drewN | apply below_drew1 | refine below_set ?_ GE158.out | refine below_set ?_ GE159.out | refine below_set ?_ GE172.out) | exact HB.out))⟩; clear hw hcz54_0 hcz54_1 hfz54_0 hfz54_1; clear HO_9; clear HO_10; clear BK159; clear BK172; clear HB; have HO_9 := n0_; have HO_10 := n1_; have BK159 := n4_; have BK172 := n5_; have HB := n7_; clear n0_ n1_ n4_ n5_ n7_; obtain ⟨o1, ho1⟩ : ∃ x, wrap64 (u + n0) = x := ⟨_, rfl⟩; rw [ho1] at HS BK172; clear ho1; have p173 : 0 ≤ (x11_1 : Int) := of_decide_eq_true (by assumption); have q173 : x11_1 < (x10_2.length : Int) := of_decide_eq_true (by assumption); obtain ⟨ad173, e173, hx173_0, hx173_1⟩ := at_T62 (Kd.R_reads' HO_10.out).2.2 x11_1 p173 q173; obtain rfl : (⟨go29, 0, none⟩ : Addr) = ad173 := (by injection e173); (first | simp only [add_plain] at hx173_0 | simp only [add_at] at hx173_0 | simp only [Addr.add, Nat.zero_add] at hx173_0 | skip); (first | simp only [add_plain] at hx173_1 | simp only [add_at] at hx173_1 | simp only [Addr.add, Nat.zero_add] at hx173_1 | skip); replace p173 := eq_true p173; replace q173 := eq_true q173) | ((with_reducible refine gate_dst (N := 15) rfl ?_); refine box_event ?hg (N := 15) ?hd (cs := #[.int .i64 0, .int .i64 0]) (t := 62) ?hr ?_; (case hd => rfl); (case hg => rfl); (case hr => first | (go_simp; done) | (go_simp; rfl)); intro gb174 hg w54 hbox hb; have n0_ := Aside0.mk (Kd.R_below HO_9.out hb); have n1_ : Aside0 (Kd.R k62 62 w54 w.heap.size (fun k_ => k_ ≠ gb172 ∧ k_ ≠ gb174) (.slice (some ⟨go29, 0, none⟩) x10_2.length co30) x10_2) := ⟨Kd.R_mono (Kd.R_below (Kd.R_elderB HO_10.out gb174 (Nat.le_of_eq hg.symm)) hb) (fun _ hk => hk)⟩; have n4_ := Aside0.mk (blk_below (g := gb159) BK159.out hb); have n5_ := Aside0.mk (blk_below (g := gb172) BK172.out hb); have n6_ := Aside0.mk (below_step (by repeat (first | (with_reducible first | exact HB.out | apply below_alloc | apply pw_below_drewN | apply below_drew1 | refine below_set ?_ GE158.out | refine below_set ?_ GE159.out | refine below_set ?_ GE172.out) | exact HB.out)) hb); have n7_ := Aside0.mk hbox; have n8_ : Aside0 (w.heap.size ≤ gb174) := ⟨by rw [hg]; exact below_size (by repeat (first | (with_reducible first | exact HB.out | apply below_alloc | apply pw_below_drewN | apply below_drew1 | refine below_set ?_ GE158.out | refine below_set ?_ GE159.out | refine below_set ?_ GE172.out) | exact HB.out))⟩; have n11_ : Aside0 (gb159 ≠ gb174) := ⟨by rw [hg]; exact Nat.ne_of_lt (blk_lt (g := gb159) BK159.out)⟩; have n12_ : Aside0 (gb172 ≠ gb174) := ⟨by rw [hg]; exact Nat.ne_of_lt (blk_lt (g := gb172) BK172.out)⟩; clear HO_9; clear HO_10; clear BK159; clear BK172; clear HB; have HO_9 := n0_; have HO_10 := n1_; have BK159 := n4_; have BK172 := n5_; have HB := n6_; have BK174 := n7_; have GE174 := n8_; have NB159_174 := n11_; have NB172_174 := n12_; clear n0_ n1_ n4_ n5_ n6_ n7_ n8_ n11_ n12_; clear hb hbox hg hx173_0 hx173_1; have hcz58_0 : w54.cell? ⟨gb174, 0, none⟩ = some (.int .i64 0) := (blk_cell BK174.out 0).trans rfl; have hcz58_1 : w54.cell? ⟨gb174, 1, none⟩ = some (.int .i64 0) := (blk_cell BK174.out 1).trans rfl; have hfz58_0 := blk_frozen BK174.out 0; have hfz58_1 := blk_frozen BK174.out 1) | ((with_reducible refine gate_store (t := 62) (p := 15) rfl ?_); refine store_event (t := 62) (p := 15) (v := ?vo_w59) (w1 := ((w54.setCell ⟨gb174, 0, none⟩ (.int .i64 ((rd_T62 x10_2 x11_1).f0))).setCell ⟨gb174, 1, none⟩ (.int .i64 ((rd_T62 x10_2 x11_1).f1)))) ?hg ?ho ?hn ?hr ?_; (case ho => rfl); (case hg => rfl); (case hn => rfl); (case hr => first | (go_simp; done) | (go_simp; rfl)); intro w59 hw; have n0_ : Aside0 (Kd.R (Kd.int .i64) 2 w59 w.heap.size (fun _ => True) (.slice (some ad170) t161.length co24) t161) := ⟨by rw [hw]; exact Kd.R_mono (Kd.R_far (p := ⟨gb174, 1, none⟩) (Kd.R_far (p := ⟨gb174, 0, none⟩) (Kd.R_types HO_9.out BK174.out (by decide)) (fun _ hk => hk.2) (.int .i64 ((rd_T62 x10_2 x11_1).f0))) (fun _ hk => hk.2) (.int .i64 ((rd_T62 x10_2 x11_1).f1))) (fun _ hk => trivial)⟩; have n1_ : Aside0 (Kd.R k62 62 w59 w.heap.size (fun k_ => k_ ≠ gb172 ∧ k_ ≠ gb174) (.slice (some ⟨go29, 0, none⟩) x10_2.length co30) x10_2) := ⟨by rw [hw]; exact Kd.R_mono (Kd.R_far (p := ⟨gb174, 1, none⟩) (Kd.R_far (p := ⟨gb174, 0, none⟩) (Kd.R_mono HO_10.out (fun k_ hk => (⟨hk, hk.2⟩ : _ ∧ k_ ≠ gb174))) (fun _ hk => hk.2) (.int .i64 ((rd_T62 x10_2 x11_1).f0))) (fun _ hk => hk.2) (.int .i64 ((rd_T62 x10_2 x11_1).f1))) (fun _ hk => hk.1)⟩; have n4_ : Aside0 (w59.heap[gb159]? = some (.cells #[.int .i16 a1_0, .int .i8 a1_1] 31 (0, 0))) := ⟨by rw [hw]; refine blk_far ?_ NB159_174.out _; refine blk_far ?_ NB159_174.out _; exact BK159.out⟩; have n5_ : Aside0 (w59.heap[gb172]? = some (.cells #[.int .i64 o0, .int .i64 o1] 62 (0, 0))) := ⟨by rw [hw]; refine blk_far ?_ NB172_174.out _; refine blk_far ?_ NB172_174.out _; exact BK172.out⟩; have n6_ : Aside0 (w59.heap[gb174]? = some (.cells #[.int .i64 ((rd_T62 x10_2 x11_1).f0), .int .i64 ((rd_T62 x10_2 x11_1).f1)] 62 (0, 0))) := ⟨by rw [hw]; refine blk_put (cs := #[.int .i64 ((rd_T62 x10_2 x11_1).f0), .int .i64 0]) ?_ 1 _ rfl; refine blk_put (cs := #[.int .i64 0, .int .i64 0]) ?_ 0 _ rfl; exact BK174.out⟩; have n7_ : Aside0 (Below w.heap.size w w59) := ⟨by rw [hw]; exact (by repeat (first | (with_reducible first | exact HB.out | apply below_alloc | apply pw_below_drewN | apply below_drew1 | refine below_set ?_ GE158.out | refine below_set ?_ GE159.out | refine below_set ?_ GE172.out | refine below_set ?_ GE174.out) | exact HB.out))⟩; clear hw hcz58_0 hcz58_1 hfz58_0 hfz58_1; clear HO_9; clear HO_10; clear BK159; clear BK172; clear BK174; clear HB; have HO_9 := n0_; have HO_10 := n1_; have BK159 := n4_; have BK172 := n5_; have BK174 := n6_; have HB := n7_; clear n0_ n1_ n4_ n5_ n6_ n7_; have hcz60_0 : w59.cell? ⟨gb174, 0, none⟩ = some (.int .i64 ((rd_T62 x10_2 x11_1).f0)) := (blk_cell BK174.out 0).trans rfl; have hcz60_1 : w59.cell? ⟨gb174, 1, none⟩ = some (.int .i64 ((rd_T62 x10_2 x11_1).f1)) := (blk_cell BK174.out 1).trans rfl; have hcz61_0 : w59.cell? ⟨gb172, 0, none⟩ = some (.int .i64 o0) := (blk_cell BK172.out 0).trans rfl; have hcz61_1 : w59.cell? ⟨gb172, 1, none⟩ = some (.int .i64 o1) := (blk_cell BK172.out 1).trans rfl))
                                    have H : (if 0 ≤ x11_1 then (if x11_1 < (x10_2.length : Int) then (if ((rd_T62 x10_2 x11_1).f0) < 0 then (impl_LeastTime.l1 k2 t161 (x10_2.set (x11_1 : Int).toNat (⟨o0, o1⟩ : S62)) x11_1 t161 (t161.length : Int) (wrap64 (x45_2 + 1)) a1_0 a1_1) else (if o0 < ((rd_T62 x10_2 x11_1).f0) then (impl_LeastTime.l1 k2 t161 (x10_2.set (x11_1 : Int).toNat (⟨o0, o1⟩ : S62)) x11_1 t161 (t161.length : Int) (wrap64 (x45_2 + 1)) a1_0 a1_1) else (if o0 = ((rd_T62 x10_2 x11_1).f0) then (if o1 < ((rd_T62 x10_2 x11_1).f1) then (impl_LeastTime.l1 k2 t161 (x10_2.set (x11_1 : Int).toNat (⟨o0, o1⟩ : S62)) x11_1 t161 (t161.length : Int) (wrap64 (x45_2 + 1)) a1_0 a1_1) else (impl_LeastTime.l1 k2 t161 x10_2 x11_1 t161 (t161.length : Int) (wrap64 (x45_2 + 1)) a1_0 a1_1)) else (impl_LeastTime.l1 k2 t161 x10_2 x11_1 t161 (t161.length : Int) (wrap64 (x45_2 + 1)) a1_0 a1_1)))) else (none)) else (none)) = some (r1, r2) := by have H3 := HS.out; rw [HT.out] at H3; exact H3
                                    clear HT HS T
                                    rw [if_pos (of_decide_eq_true (by assumption)), if_pos (of_decide_eq_true (by assumption))] at H
                                    by_cases c46 : ((rd_T62 x10_2 x11_1).f0) < 0
                                    · rw [if_pos c46] at H
                                      have c46b0 : decide (((rd_T62 x10_2 x11_1).f0) < 0) = true := decide_eq_true c46
                                      clear c46
                                      obtain ⟨y175, hy175⟩ : ∃ y_ : List (S62), y_ = (x10_2.set (x11_1 : Int).toNat (⟨o0, o1⟩ : S62)) := ⟨_, rfl⟩
                                      rw [← hy175] at H
                                      have Ny175 := Aside0.mk hy175
                                      clear hy175
                                      have H' := Aside0.mk H
                                      clear H
                                      obtain ⟨ce62, hcl62, hM62, hcc62, hfr62⟩ := Kd.R_elem HO_10.out z62 (x11_1 : Int) (of_decide_eq_true (by assumption)) (of_decide_eq_true (by assumption))
                                      obtain rfl := k62_openM hM62
                                      have HP62 := Kd.R_seg HO_10.out (x11_1 : Int) (of_decide_eq_true (by assumption)) (of_decide_eq_true (by assumption)) (seg := [.int .i64 o0, .int .i64 o1]) (j := 0) hcl62 hcc62 (show 2 ≤ 2 from by decide) (x' := (⟨o0, o1⟩ : S62)) (k62_mkM _ _ _ (⟨o0, o1⟩ : S62) ) (fun _ hk => hk)
                                      have hx62_0 := hcc62 0 _ rfl
                                      (try simp only [show (k62).sz = 2 from rfl, Nat.mul_one, Nat.add_zero] at hx62_0)
                                      have hf62_0 := hfr62 0
                                      (try simp only [show (k62).sz = 2 from rfl, Nat.mul_one, Nat.add_zero] at hf62_0)
                                      have hx62_1 := hcc62 1 _ rfl
                                      (try simp only [show (k62).sz = 2 from rfl, Nat.mul_one, Nat.add_zero] at hx62_1)
                                      have hf62_1 := hfr62 1
                                      (try simp only [show (k62).sz = 2 from rfl, Nat.mul_one, Nat.add_zero] at hf62_1)
                                      clear hcl62 hcc62 hfr62 hM62
                                      go_wp2_with (first | ((with_reducible refine gate_store (t := 62) (p := 110) rfl ?_); refine store_event (t := 62) (p := 110) (v := ?vo_w63) (w1 := ((w59.setCell ⟨go29, (x11_1 : Int).toNat * 2, none⟩ (.int .i64 o0)).setCell ⟨go29, (x11_1 : Int).toNat * 2 + 1, none⟩ (.int .i64 o1))) ?hg ?ho ?hn ?hr ?_; (case ho => rfl); (case hg => rfl); (case hn => rfl); (case hr => first | (go_simp; done) | (go_simp; rfl)); intro w63 hw; have hg : w59.grownBy w63 (some go29) := (by rw [hw]; exact HP62.2); have hp_ : Kd.R k62 62 w63 w.heap.size (fun k_ => k_ ≠ gb172 ∧ k_ ≠ gb174) (.slice (some ⟨go29, 0, none⟩) x10_2.length co30) y175 := (by rw [hw, Ny175.out]; exact HP62.1); clear HP62; have n0_ := Aside0.mk (Kd.R_over' (v := (.slice (some ⟨go29, 0, none⟩) x10_2.length co30)) HO_9.out (Kd.R_typed HO_10.out) (by decide) hg); have n4_ := Aside0.mk (blk_grown (g := gb159) BK159.out hg (Kd.R_ne HO_10.out BK159.out (by decide))); have n7_ : Aside0 (Below w.heap.size w w63) := ⟨by rw [hw]; exact below_set (below_set (HB.out) GB29.out) GB29.out⟩; clear BK172 BK174 hcz60_0 hcz60_1 hcz61_0 hcz61_1; have n1_ := Aside0.mk hp_; clear hw hg hp_ hx62_0 hx62_1 hf62_0 hf62_1; clear HO_9; clear HO_10; clear BK159; clear HB; have HO_9 := n0_; have HO_10 := n1_; have BK159 := n4_; have HB := n7_; clear n0_ n1_ n4_ n7_))
                                      (try simp only [← hl10_2])
                                      go_roundg k2
                                      case measure => have := HK1.out; have := HK2.out; omega
                                      case rel => exact ⟨y175, (wrap64 (x45_2 + 1)), (by first | rfl | (simp; done) | (simp [*]; done)), H', ⟨by have := HK1.out; have := HK2.out; omega⟩, ⟨by (try simp only [hl10_2]); exact HO_9.out⟩, ⟨by (try simp only [hl10_2]); exact Kd.R_mono HO_10.out (fun _ hk => trivial)⟩, ⟨by (try simp only [hl10_2]); exact HO_9.out⟩, ⟨by (try simp only [hl10_2]); exact BK159.out⟩, ⟨by repeat (first | (with_reducible first | exact HB.out | apply below_alloc | apply pw_below_drewN | apply below_drew1 | refine below_set ?_ GE158.out | refine below_set ?_ GE159.out | refine below_set ?_ GE172.out | refine below_set ?_ GE174.out) | exact HB.out)⟩⟩
                                    · rw [if_neg c46] at H
                                      have c46b0 : decide (((rd_T62 x10_2 x11_1).f0) < 0) = false := decide_eq_false c46
                                      clear c46
                                      by_cases c64 : o0 < ((rd_T62 x10_2 x11_1).f0)
                                      · rw [if_pos c64] at H
                                        have c64b0 : decide (o0 < ((rd_T62 x10_2 x11_1).f0)) = true := decide_eq_true c64
                                        clear c64
                                        obtain ⟨y175, hy175⟩ : ∃ y_ : List (S62), y_ = (x10_2.set (x11_1 : Int).toNat (⟨o0, o1⟩ : S62)) := ⟨_, rfl⟩
                                        rw [← hy175] at H
                                        have Ny175 := Aside0.mk hy175
                                        clear hy175
                                        have H' := Aside0.mk H
                                        clear H
                                        obtain ⟨ce62, hcl62, hM62, hcc62, hfr62⟩ := Kd.R_elem HO_10.out z62 (x11_1 : Int) (of_decide_eq_true (by assumption)) (of_decide_eq_true (by assumption))
                                        obtain rfl := k62_openM hM62
                                        have HP62 := Kd.R_seg HO_10.out (x11_1 : Int) (of_decide_eq_true (by assumption)) (of_decide_eq_true (by assumption)) (seg := [.int .i64 o0, .int .i64 o1]) (j := 0) hcl62 hcc62 (show 2 ≤ 2 from by decide) (x' := (⟨o0, o1⟩ : S62)) (k62_mkM _ _ _ (⟨o0, o1⟩ : S62) ) (fun _ hk => hk)
                                        have hx62_0 := hcc62 0 _ rfl
                                        (try simp only [show (k62).sz = 2 from rfl, Nat.mul_one, Nat.add_zero] at hx62_0)
                                        have hf62_0 := hfr62 0
                                        (try simp only [show (k62).sz = 2 from rfl, Nat.mul_one, Nat.add_zero] at hf62_0)
                                        have hx62_1 := hcc62 1 _ rfl
                                        (try simp only [show (k62).sz = 2 from rfl, Nat.mul_one, Nat.add_zero] at hx62_1)
                                        have hf62_1 := hfr62 1
                                        (try simp only [show (k62).sz = 2 from rfl, Nat.mul_one, Nat.add_zero] at hf62_1)
                                        clear hcl62 hcc62 hfr62 hM62
                                        go_wp2_with (first | ((with_reducible refine gate_store (t := 62) (p := 110) rfl ?_); refine store_event (t := 62) (p := 110) (v := ?vo_w63) (w1 := ((w59.setCell ⟨go29, (x11_1 : Int).toNat * 2, none⟩ (.int .i64 o0)).setCell ⟨go29, (x11_1 : Int).toNat * 2 + 1, none⟩ (.int .i64 o1))) ?hg ?ho ?hn ?hr ?_; (case ho => rfl); (case hg => rfl); (case hn => rfl); (case hr => first | (go_simp; done) | (go_simp; rfl)); intro w63 hw; have hg : w59.grownBy w63 (some go29) := (by rw [hw]; exact HP62.2); have hp_ : Kd.R k62 62 w63 w.heap.size (fun k_ => k_ ≠ gb172 ∧ k_ ≠ gb174) (.slice (some ⟨go29, 0, none⟩) x10_2.length co30) y175 := (by rw [hw, Ny175.out]; exact HP62.1); clear HP62; have n0_ := Aside0.mk (Kd.R_over' (v := (.slice (some ⟨go29, 0, none⟩) x10_2.length co30)) HO_9.out (Kd.R_typed HO_10.out) (by decide) hg); have n4_ := Aside0.mk (blk_grown (g := gb159) BK159.out hg (Kd.R_ne HO_10.out BK159.out (by decide))); have n7_ : Aside0 (Below w.heap.size w w63) := ⟨by rw [hw]; exact below_set (below_set (HB.out) GB29.out) GB29.out⟩; clear BK172 BK174 hcz60_0 hcz60_1 hcz61_0 hcz61_1; have n1_ := Aside0.mk hp_; clear hw hg hp_ hx62_0 hx62_1 hf62_0 hf62_1; clear HO_9; clear HO_10; clear BK159; clear HB; have HO_9 := n0_; have HO_10 := n1_; have BK159 := n4_; have HB := n7_; clear n0_ n1_ n4_ n7_))
                                        (try simp only [← hl10_2])
                                        go_roundg k2
                                        case measure => have := HK1.out; have := HK2.out; omega
                                        case rel => exact ⟨y175, (wrap64 (x45_2 + 1)), (by first | rfl | (simp; done) | (simp [*]; done)), H', ⟨by have := HK1.out; have := HK2.out; omega⟩, ⟨by (try simp only [hl10_2]); exact HO_9.out⟩, ⟨by (try simp only [hl10_2]); exact Kd.R_mono HO_10.out (fun _ hk => trivial)⟩, ⟨by (try simp only [hl10_2]); exact HO_9.out⟩, ⟨by (try simp only [hl10_2]); exact BK159.out⟩, ⟨by repeat (first | (with_reducible first | exact HB.out | apply below_alloc | apply pw_below_drewN | apply below_drew1 | refine below_set ?_ GE158.out | refine below_set ?_ GE159.out | refine below_set ?_ GE172.out | refine below_set ?_ GE174.out) | exact HB.out)⟩⟩
                                      · rw [if_neg c64] at H
                                        have c64b0 : decide (o0 < ((rd_T62 x10_2 x11_1).f0)) = false := decide_eq_false c64
                                        clear c64
                                        by_cases c83 : o0 = ((rd_T62 x10_2 x11_1).f0)
                                        · rw [if_pos c83] at H
                                          have c83b0 : (o0 == ((rd_T62 x10_2 x11_1).f0)) = true := beq_iff_eq.mpr c83
                                          have c83b1 : (o0 != ((rd_T62 x10_2 x11_1).f0)) = false := bne_eq_false_iff_eq.mpr c83
                                          clear c83
                                          by_cases c84 : o1 < ((rd_T62 x10_2 x11_1).f1)
                                          · rw [if_pos c84] at H
                                            have c84b0 : decide (o1 < ((rd_T62 x10_2 x11_1).f1)) = true := decide_eq_true c84
                                            clear c84
                                            obtain ⟨y175, hy175⟩ : ∃ y_ : List (S62), y_ = (x10_2.set (x11_1 : Int).toNat (⟨o0, o1⟩ : S62)) := ⟨_, rfl⟩
                                            rw [← hy175] at H
                                            have Ny175 := Aside0.mk hy175
                                            clear hy175
                                            have H' := Aside0.mk H
                                            clear H
                                            obtain ⟨ce62, hcl62, hM62, hcc62, hfr62⟩ := Kd.R_elem HO_10.out z62 (x11_1 : Int) (of_decide_eq_true (by assumption)) (of_decide_eq_true (by assumption))
                                            obtain rfl := k62_openM hM62
                                            have HP62 := Kd.R_seg HO_10.out (x11_1 : Int) (of_decide_eq_true (by assumption)) (of_decide_eq_true (by assumption)) (seg := [.int .i64 o0, .int .i64 o1]) (j := 0) hcl62 hcc62 (show 2 ≤ 2 from by decide) (x' := (⟨o0, o1⟩ : S62)) (k62_mkM _ _ _ (⟨o0, o1⟩ : S62) ) (fun _ hk => hk)
                                            have hx62_0 := hcc62 0 _ rfl
                                            (try simp only [show (k62).sz = 2 from rfl, Nat.mul_one, Nat.add_zero] at hx62_0)
                                            have hf62_0 := hfr62 0
                                            (try simp only [show (k62).sz = 2 from rfl, Nat.mul_one, Nat.add_zero] at hf62_0)
                                            have hx62_1 := hcc62 1 _ rfl
                                            (try simp only [show (k62).sz = 2 from rfl, Nat.mul_one, Nat.add_zero] at hx62_1)
                                            have hf62_1 := hfr62 1
                                            (try simp only [show (k62).sz = 2 from rfl, Nat.mul_one, Nat.add_zero] at hf62_1)
                                            clear hcl62 hcc62 hfr62 hM62
                                            go_wp2_with (first | ((with_reducible refine gate_store (t := 62) (p := 110) rfl ?_); refine store_event (t := 62) (p := 110) (v := ?vo_w63) (w1 := ((w59.setCell ⟨go29, (x11_1 : Int).toNat * 2, none⟩ (.int .i64 o0)).setCell ⟨go29, (x11_1 : Int).toNat * 2 + 1, none⟩ (.int .i64 o1))) ?hg ?ho ?hn ?hr ?_; (case ho => rfl); (case hg => rfl); (case hn => rfl); (case hr => first | (go_simp; done) | (go_simp; rfl)); intro w63 hw; have hg : w59.grownBy w63 (some go29) := (by rw [hw]; exact HP62.2); have hp_ : Kd.R k62 62 w63 w.heap.size (fun k_ => k_ ≠ gb172 ∧ k_ ≠ gb174) (.slice (some ⟨go29, 0, none⟩) x10_2.length co30) y175 := (by rw [hw, Ny175.out]; exact HP62.1); clear HP62; have n0_ := Aside0.mk (Kd.R_over' (v := (.slice (some ⟨go29, 0, none⟩) x10_2.length co30)) HO_9.out (Kd.R_typed HO_10.out) (by decide) hg); have n4_ := Aside0.mk (blk_grown (g := gb159) BK159.out hg (Kd.R_ne HO_10.out BK159.out (by decide))); have n7_ : Aside0 (Below w.heap.size w w63) := ⟨by rw [hw]; exact below_set (below_set (HB.out) GB29.out) GB29.out⟩; clear BK172 BK174 hcz60_0 hcz60_1 hcz61_0 hcz61_1; have n1_ := Aside0.mk hp_; clear hw hg hp_ hx62_0 hx62_1 hf62_0 hf62_1; clear HO_9; clear HO_10; clear BK159; clear HB; have HO_9 := n0_; have HO_10 := n1_; have BK159 := n4_; have HB := n7_; clear n0_ n1_ n4_ n7_))
                                            (try simp only [← hl10_2])
                                            go_roundg k2
                                            case measure => have := HK1.out; have := HK2.out; omega
                                            case rel => exact ⟨y175, (wrap64 (x45_2 + 1)), (by first | rfl | (simp; done) | (simp [*]; done)), H', ⟨by have := HK1.out; have := HK2.out; omega⟩, ⟨by (try simp only [hl10_2]); exact HO_9.out⟩, ⟨by (try simp only [hl10_2]); exact Kd.R_mono HO_10.out (fun _ hk => trivial)⟩, ⟨by (try simp only [hl10_2]); exact HO_9.out⟩, ⟨by (try simp only [hl10_2]); exact BK159.out⟩, ⟨by repeat (first | (with_reducible first | exact HB.out | apply below_alloc | apply pw_below_drewN | apply below_drew1 | refine below_set ?_ GE158.out | refine below_set ?_ GE159.out | refine below_set ?_ GE172.out | refine below_set ?_ GE174.out) | exact HB.out)⟩⟩
                                          · rw [if_neg c84] at H
                                            have c84b0 : decide (o1 < ((rd_T62 x10_2 x11_1).f1)) = false := decide_eq_false c84
                                            clear c84
                                            have H' := Aside0.mk H
                                            clear H
                                            go_wp2_with fail
                                            (try simp only [← hl10_2])
                                            go_roundg k2
                                            case measure => have := HK1.out; have := HK2.out; omega
                                            case rel => exact ⟨x10_2, (wrap64 (x45_2 + 1)), (by first | rfl | (simp; done) | (simp [*]; done)), H', ⟨by have := HK1.out; have := HK2.out; omega⟩, ⟨by (try simp only [hl10_2]); exact HO_9.out⟩, ⟨by (try simp only [hl10_2]); exact Kd.R_mono HO_10.out (fun _ hk => trivial)⟩, ⟨by (try simp only [hl10_2]); exact HO_9.out⟩, ⟨by (try simp only [hl10_2]); exact BK159.out⟩, ⟨by repeat (first | (with_reducible first | exact HB.out | apply below_alloc | apply pw_below_drewN | apply below_drew1 | refine below_set ?_ GE158.out | refine below_set ?_ GE159.out | refine below_set ?_ GE172.out | refine below_set ?_ GE174.out) | exact HB.out)⟩⟩
                                        · rw [if_neg c83] at H
                                          have c83b0 : (o0 == ((rd_T62 x10_2 x11_1).f0)) = false := beq_eq_false_iff_ne.mpr c83
                                          have c83b1 : (o0 != ((rd_T62 x10_2 x11_1).f0)) = true := bne_iff_ne.mpr c83
                                          clear c83
                                          have H' := Aside0.mk H
                                          clear H
                                          go_wp2_with fail
                                          (try simp only [← hl10_2])
                                          go_roundg k2
                                          case measure => have := HK1.out; have := HK2.out; omega
                                          case rel => exact ⟨x10_2, (wrap64 (x45_2 + 1)), (by first | rfl | (simp; done) | (simp [*]; done)), H', ⟨by have := HK1.out; have := HK2.out; omega⟩, ⟨by (try simp only [hl10_2]); exact HO_9.out⟩, ⟨by (try simp only [hl10_2]); exact Kd.R_mono HO_10.out (fun _ hk => trivial)⟩, ⟨by (try simp only [hl10_2]); exact HO_9.out⟩, ⟨by (try simp only [hl10_2]); exact BK159.out⟩, ⟨by repeat (first | (with_reducible first | exact HB.out | apply below_alloc | apply pw_below_drewN | apply below_drew1 | refine below_set ?_ GE158.out | refine below_set ?_ GE159.out | refine below_set ?_ GE172.out | refine below_set ?_ GE174.out) | exact HB.out)⟩⟩
                                · rw [if_neg c42] at H
                                  exact absurd H (by simp)
                              · rw [if_neg c41] at H
                                exact absurd H (by simp)
                          · rw [if_neg c35] at H
                            exact absurd H (by simp)
                        · rw [if_neg c34] at H
                          exact absurd H (by simp)
                      · rw [if_neg c33] at H
                        have c33b0 : decide (x45_2 < (t161.length : Int)) = false := decide_eq_false c33
                        clear c33
                        have H' := Aside0.mk H
                        clear H
                        go_wp2
                        repeat (go_quiet (fail); try go_wp2)
                        (try simp only [← hl10_2])
                        go_roundg k2
                        case measure => have := HK1.out; have := HK2.out; omega
                        case rel => exact ⟨(x10_2), (wrap64 (x11_1 + 1)), (by first | rfl | (simp; done) | (simp [*]; done)), H', ⟨by have := HK1.out; have := HK2.out; omega⟩, ⟨by (try simp only [hl10_2]); (with_reducible repeat (first | apply Kd.R_alloc | apply Kd.R_drewN | apply Kd.R_drew)); exact HO_9.out⟩, ⟨by (try simp only [hl10_2]); (with_reducible repeat (first | apply Kd.R_alloc | apply Kd.R_drewN | apply Kd.R_drew)); exact HO_10.out⟩, ⟨by (try simp only [hl10_2]); (with_reducible repeat (first | refine blk_drewN ?_ _ | refine blk_drew ?_ | refine blk_alloc ?_ _)); exact BK159.out⟩, ⟨by repeat (first | (with_reducible first | exact HB.out | apply below_alloc | apply pw_below_drewN | apply below_drew1 | refine below_set ?_ GE158.out | refine below_set ?_ GE159.out) | exact HB.out)⟩⟩
                · rw [if_neg c28] at H
                  exact absurd H (by simp)
              · rw [if_neg c27] at H
                have c27b0 : decide (x11_1 < (x10_1.length : Int)) = false := decide_eq_false c27
                clear c27
                replace H := Option.bind_eq_some_iff.mp H
                obtain ⟨t167, A2100, H⟩ := H
                replace H : (if 0 ≤ (wrap64 ((x10_1.length : Int) - 1)) then (if (wrap64 ((x10_1.length : Int) - 1)) < (x10_1.length : Int) then (some (wrap64 (t167 + (wrap64 (((rd_T62 x10_1 (wrap64 ((x10_1.length : Int) - 1))).f0) * (wrap64 (a1_1))))), 0)) else (none)) else (none)) = some (r1, r2) := H
                have A210 := Aside0.mk A2100
                clear A2100
                obtain ⟨ji211, hji211⟩ : ∃ j_ : Int, (wrap64 ((x10_1.length : Int) - 1)) = j_ := ⟨_, rfl⟩
                replace H : (if 0 ≤ (ji211) then (if (ji211) < (x10_1.length : Int) then (some (wrap64 (t167 + (wrap64 (((rd_T62 x10_1 (ji211)).f0) * (wrap64 (a1_1))))), 0)) else (none)) else (none)) = some (r1, r2) := by first | (rw [hji211] at H; exact H) | (simp only [hji211] at H ⊢; exact H)
                (try rw [hji211] at A210)
                have hji211w : (IntKind.i64.wrap ((x10_1.length : Int) - 1)) = ji211 := (i64_w _).trans hji211
                by_cases c212 : 0 ≤ (ji211)
                · rw [if_pos c212] at H
                  have c212b0 : decide (0 ≤ (ji211)) = true := decide_eq_true c212
                  clear c212
                  by_cases c213 : (ji211) < (x10_1.length : Int)
                  · rw [if_pos c213] at H
                    have c213b0 : decide ((ji211) < (x10_1.length : Int)) = true := decide_eq_true c213
                    clear c213
                    simp only [Option.some.injEq, Prod.mk.injEq] at H
                    obtain ⟨rfl, rfl⟩ := H
                    obtain ⟨Ao214, co214, eo214⟩ := Kd.R_slice HO_10.out
                    subst eo214
                    go_wp2_with (first | (go_at_call 27; (with_reducible refine (impl_total.calls k1 _ _ t161 t167 _ ?side1 ?side2 A210.out).mono ?_); (case side1 => repeat (first | exact (Kd.R_reads' HO_9.out).2.2 | (with_reducible refine Kd.C_alloc ?_ _) | (with_reducible refine Kd.C_drewN ?_ _) | (with_reducible refine Kd.C_drew ?_))); (case side2 => exact (Kd.R_reads' HO_9.out).2.1); rintro e w' ⟨rfl, ⟨nd, rfl⟩⟩; (try first | exact ⟨rfl, _, World.drewN_drewN _ _ _⟩ | exact ⟨rfl, _, Eq.trans (World.drewN_drewN _ _ _) (congrArg (World.drewN _) (Nat.add_assoc _ _ _))⟩); have p168 : 0 ≤ ((ji211) : Int) := of_decide_eq_true (by assumption); have q168 : (ji211) < (x10_1.length : Int) := of_decide_eq_true (by assumption); obtain ⟨ad168, e168, hx168_0, hx168_1⟩ := at_T62 (Kd.R_reads' HO_10.out).2.2 (ji211) p168 q168; cases e168; replace p168 := eq_true p168; replace q168 := eq_true q168; have hnb215 := NB159_158.out; have hnc215 := NB158_159.out; have hcz216_0 : wr.cell? ⟨gb159, 0, none⟩ = some (.int .i16 a1_0) := (blk_cell BK159.out 0).trans rfl; have hcz216_1 : wr.cell? ⟨gb159, 1, none⟩ = some (.int .i8 a1_1) := (blk_cell BK159.out 1).trans rfl; have hfz216_0 := blk_frozen BK159.out 0; have hfz216_1 := blk_frozen BK159.out 1))
                    repeat (go_quiet (first | (go_at_call 27; (with_reducible refine (impl_total.calls k1 _ _ t161 t167 _ ?side1 ?side2 A210.out).mono ?_); (case side1 => repeat (first | exact (Kd.R_reads' HO_9.out).2.2 | (with_reducible refine Kd.C_alloc ?_ _) | (with_reducible refine Kd.C_drewN ?_ _) | (with_reducible refine Kd.C_drew ?_))); (case side2 => exact (Kd.R_reads' HO_9.out).2.1); rintro e w' ⟨rfl, ⟨nd, rfl⟩⟩; (try first | exact ⟨rfl, _, World.drewN_drewN _ _ _⟩ | exact ⟨rfl, _, Eq.trans (World.drewN_drewN _ _ _) (congrArg (World.drewN _) (Nat.add_assoc _ _ _))⟩); have p168 : 0 ≤ ((ji211) : Int) := of_decide_eq_true (by assumption); have q168 : (ji211) < (x10_1.length : Int) := of_decide_eq_true (by assumption); obtain ⟨ad168, e168, hx168_0, hx168_1⟩ := at_T62 (Kd.R_reads' HO_10.out).2.2 (ji211) p168 q168; cases e168; replace p168 := eq_true p168; replace q168 := eq_true q168; have hnb215 := NB159_158.out; have hnc215 := NB158_159.out; have hcz216_0 : wr.cell? ⟨gb159, 0, none⟩ = some (.int .i16 a1_0) := (blk_cell BK159.out 0).trans rfl; have hcz216_1 : wr.cell? ⟨gb159, 1, none⟩ = some (.int .i8 a1_1) := (blk_cell BK159.out 1).trans rfl; have hfz216_0 := blk_frozen BK159.out 0; have hfz216_1 := blk_frozen BK159.out 1)); try go_wp2_with (first | (go_at_call 27; (with_reducible refine (impl_total.calls k1 _ _ t161 t167 _ ?side1 ?side2 A210.out).mono ?_); (case side1 => repeat (first | exact (Kd.R_reads' HO_9.out).2.2 | (with_reducible refine Kd.C_alloc ?_ _) | (with_reducible refine Kd.C_drewN ?_ _) | (with_reducible refine Kd.C_drew ?_))); (case side2 => exact (Kd.R_reads' HO_9.out).2.1); rintro e w' ⟨rfl, ⟨nd, rfl⟩⟩; (try first | exact ⟨rfl, _, World.drewN_drewN _ _ _⟩ | exact ⟨rfl, _, Eq.trans (World.drewN_drewN _ _ _) (congrArg (World.drewN _) (Nat.add_assoc _ _ _))⟩); have p168 : 0 ≤ ((ji211) : Int) := of_decide_eq_true (by assumption); have q168 : (ji211) < (x10_1.length : Int) := of_decide_eq_true (by assumption); obtain ⟨ad168, e168, hx168_0, hx168_1⟩ := at_T62 (Kd.R_reads' HO_10.out).2.2 (ji211) p168 q168; cases e168; replace p168 := eq_true p168; replace q168 := eq_true q168; have hnb215 := NB159_158.out; have hnc215 := NB158_159.out; have hcz216_0 : wr.cell? ⟨gb159, 0, none⟩ = some (.int .i16 a1_0) := (blk_cell BK159.out 0).trans rfl; have hcz216_1 : wr.cell? ⟨gb159, 1, none⟩ = some (.int .i8 a1_1) := (blk_cell BK159.out 1).trans rfl; have hfz216_0 := blk_frozen BK159.out 0; have hfz216_1 := blk_frozen BK159.out 1)))
                    go_ret2
                    exact ⟨by first | rfl | (simp [errW_none, errW_some, i64_w]; done) | (simp [errW_none, errW_some] <;> rfl) | (simp only [← hji15, ← hji211]; first | rfl | (simp [errW_none, errW_some] <;> rfl)) | (simp [*, errW_none, errW_some] <;> rfl), by repeat (first | (with_reducible first | exact HB.out | apply below_alloc | apply pw_below_drewN | apply below_drew1 | refine below_set ?_ GE158.out | refine below_set ?_ GE159.out) | exact HB.out)⟩
                  · rw [if_neg c213] at H
                    exact absurd H (by simp)
                · rw [if_neg c212] at H
                  exact absurd H (by simp)
        · rw [if_neg c17] at H
          exact absurd H (by simp)
      · rw [if_neg c16] at H
        exact absurd H (by simp)
  · rw [if_neg c5] at H
    have c5b0 : (t160 == 0) = false := beq_eq_false_iff_ne.mpr c5
    have c5b1 : (t160 != 0) = true := bne_iff_ne.mpr c5
    simp only [Option.some.injEq, Prod.mk.injEq] at H
    obtain ⟨rfl, rfl⟩ := H
    go_enter Tryd.func10, Tryd.ntmps10
    go_wp2_with (first | ((with_reducible refine gate_dst (N := 3) rfl ?_); refine box_event ?hg (N := 3) ?hd (cs := #[.int .i8 a0_0, .int .i8 a0_1, .int .i8 a0_2, .int .i8 a0_3, .int .i8 a0_4, .int .i8 a0_5, .int .i8 a0_6, .int .i8 a0_7, .int .i8 a0_8, .int .i8 a0_9, .int .i8 a0_10, .int .i8 a0_11, .int .i8 a0_12, .int .i8 a0_13, .int .i8 a0_14, .int .i8 a0_15, .int .i8 a0_16, .int .i8 a0_17, .int .i8 a0_18, .int .i8 a0_19, .int .i8 a0_20, .int .i8 a0_21, .int .i8 a0_22, .int .i8 a0_23, .int .i8 a0_24, .int .i8 a0_25]) (t := 29) ?hr ?_; (case hd => rfl); (case hg => rfl); (case hr => first | (go_simp; done) | (go_simp; rfl)); intro gb158 hg w217 hbox hb; have n0_ := Aside0.mk (below_step (by repeat (first | (with_reducible first | exact HB.out | apply below_alloc | apply pw_below_drewN | apply below_drew1) | exact HB.out)) hb); have n1_ := Aside0.mk (hbox); have n2_ := Aside0.mk ((by rw [hg]; exact (below_size (by repeat (first | (with_reducible first | exact HB.out | apply below_alloc | apply pw_below_drewN | apply below_drew1) | exact HB.out))) : w.heap.size ≤ gb158)); have n3_ := Aside0.mk (n2_.out); clear HB; have HB := n0_; have BK158 := n1_; have GW158 := n2_; have GE158 := n3_; clear n0_ n1_ n2_ n3_; clear hb hbox hg) | ((with_reducible refine gate_dst (N := 4) rfl ?_); refine box_event ?hg (N := 4) ?hd (cs := #[.int .i16 a1_0, .int .i8 a1_1]) (t := 31) ?hr ?_; (case hd => rfl); (case hg => rfl); (case hr => first | (go_simp; done) | (go_simp; rfl)); intro gb159 hg w218 hbox hb; have n0_ := Aside0.mk (blk_below (g := gb158) (by (with_reducible repeat (first | refine blk_drewN ?_ _ | refine blk_drew ?_ | refine blk_alloc ?_ _)); exact BK158.out) hb); have n1_ := Aside0.mk (below_step (by repeat (first | (with_reducible first | exact HB.out | apply below_alloc | apply pw_below_drewN | apply below_drew1 | refine below_set ?_ GE158.out) | exact HB.out)) hb); have n2_ := Aside0.mk (hbox); have n3_ := Aside0.mk ((by rw [hg]; exact (below_size (by repeat (first | (with_reducible first | exact HB.out | apply below_alloc | apply pw_below_drewN | apply below_drew1 | refine below_set ?_ GE158.out) | exact HB.out))) : w.heap.size ≤ gb159)); have n4_ := Aside0.mk (n3_.out); have n5_ := Aside0.mk ((by rw [hg]; exact Nat.ne_of_lt (blk_lt (g := gb158) (by (with_reducible repeat (first | refine blk_drewN ?_ _ | refine blk_drew ?_ | refine blk_alloc ?_ _)); exact BK158.out)) : gb158 ≠ gb159)); have n6_ := Aside0.mk ((Ne.symm n5_.out)); clear BK158; clear HB; have BK158 := n0_; have HB := n1_; have BK159 := n2_; have GW159 := n3_; have GE159 := n4_; have NB158_159 := n5_; have NB159_158 := n6_; clear n0_ n1_ n2_ n3_ n4_ n5_ n6_; clear hb hbox hg) | ((with_reducible refine gate_dst (N := 16) rfl ?_); refine wpList_load_mid rfl 29 (.tmp 3) rfl gb158 0 rfl [.int .i8 a0_0, .int .i8 a0_1, .int .i8 a0_2, .int .i8 a0_3, .int .i8 a0_4, .int .i8 a0_5, .int .i8 a0_6, .int .i8 a0_7, .int .i8 a0_8, .int .i8 a0_9, .int .i8 a0_10, .int .i8 a0_11, .int .i8 a0_12, .int .i8 a0_13, .int .i8 a0_14, .int .i8 a0_15, .int .i8 a0_16, .int .i8 a0_17, .int .i8 a0_18, .int .i8 a0_19, .int .i8 a0_20, .int .i8 a0_21, .int .i8 a0_22, .int .i8 a0_23, .int .i8 a0_24, .int .i8 a0_25] _ (range_partx_ [] [.int .i8 a0_0, .int .i8 a0_1, .int .i8 a0_2, .int .i8 a0_3, .int .i8 a0_4, .int .i8 a0_5, .int .i8 a0_6, .int .i8 a0_7, .int .i8 a0_8, .int .i8 a0_9, .int .i8 a0_10, .int .i8 a0_11, .int .i8 a0_12, .int .i8 a0_13, .int .i8 a0_14, .int .i8 a0_15, .int .i8 a0_16, .int .i8 a0_17, .int .i8 a0_18, .int .i8 a0_19, .int .i8 a0_20, .int .i8 a0_21, .int .i8 a0_22, .int .i8 a0_23, .int .i8 a0_24, .int .i8 a0_25] [] 0 rfl (by (with_reducible repeat (first | refine blk_drewN ?_ _ | refine blk_drew ?_ | refine blk_alloc ?_ _)); exact BK158.out)) Tryd.underlying29 rfl (by exact (show (Tryd.prog.info? 29).map (·.size) = some 26 by kernel_rfl)) ?_; have hnb219 := NB159_158.out; have hnc219 := NB158_159.out; have hcz220_0 : w218.cell? ⟨gb159, 0, none⟩ = some (.int .i16 a1_0) := (blk_cell BK159.out 0).trans rfl; have hcz220_1 : w218.cell? ⟨gb159, 1, none⟩ = some (.int .i8 a1_1) := (blk_cell BK159.out 1).trans rfl; have hfz220_0 := blk_frozen BK159.out 0; have hfz220_1 := blk_frozen BK159.out 1) | (go_at_call 25; (with_reducible refine (impl_chiselCode.calls a0_0 a0_1 a0_2 a0_3 a0_4 a0_5 a0_6 a0_7 a0_8 a0_9 a0_10 a0_11 a0_12 a0_13 a0_14 a0_15 a0_16 a0_17 a0_18 a0_19 a0_20 a0_21 a0_22 a0_23 a0_24 a0_25 a1_0 a1_1 a2 t160 _ ?sideG A4.out).mono ?_); (case sideG => first | exact HG.out.below (by repeat (first | (with_reducible first | exact HB.out | apply below_alloc | apply pw_below_drewN | apply below_drew1) | exact HB.out)) | exact (HG.out.below (by repeat (first | (with_reducible first | exact HB.out | apply below_alloc | apply pw_below_drewN | apply below_drew1) | exact HB.out))).toM); rintro e w221 ⟨rfl, hb⟩; have n0_ := Aside0.mk (blk_below (g := gb158) (by (with_reducible repeat (first | refine blk_drewN ?_ _ | refine blk_drew ?_ | refine blk_alloc ?_ _)); exact BK158.out) hb); have n1_ := Aside0.mk (blk_below (g := gb159) (by (with_reducible repeat (first | refine blk_drewN ?_ _ | refine blk_drew ?_ | refine blk_alloc ?_ _)); exact BK159.out) hb); have n2_ := Aside0.mk (below_step (by repeat (first | (with_reducible first | exact HB.out | apply below_alloc | apply pw_below_drewN | apply below_drew1 | refine below_set ?_ GE158.out | refine below_set ?_ GE159.out) | exact HB.out)) hb); clear BK158; clear BK159; clear HB; have BK158 := n0_; have BK159 := n1_; have HB := n2_; clear n0_ n1_ n2_; (try clear hb); (try clear hb2); (try clear hk); (try clear hi)))
    go_ret2
    exact ⟨by first | rfl | (simp [errW_none, errW_some, i64_w]; done) | (simp [errW_none, errW_some] <;> rfl) | (simp [*, errW_none, errW_some] <;> rfl), by repeat (first | (with_reducible first | exact HB.out | apply below_alloc | apply pw_below_drewN | apply below_drew1 | refine below_set ?_ GE158.out | refine below_set ?_ GE159.out) | exact HB.out)⟩
end Go.Proofs.YtfnhjoemmiepiaaDoor.Q
namespace Go.Proofs.YtfnhjoemmiepiaaDoor.Ext
end Go.Proofs.YtfnhjoemmiepiaaDoor.Ext
namespace Go.Proofs.YtfnhjoemmiepiaaDoor.Q
open Go.Proofs.YtfnhjoemmiepiaaDoor.Ext
open Go.RowKit Go.Proofs.YtfnhjoemmiepiaaDoorW.PrintWords Go.Proofs.YtfnhjoemmiepiaaDoorW.PrintLast Go.Proofs.YtfnhjoemmiepiaaDoorW.PrintMore
attribute [local go_sem] max2_int min2_int max_two min_two max_three min_three max_four min_four
set_option linter.unusedVariables false
set_option linter.unusedSimpArgs false
def laws_FnExactLeastTime.f (k : Nat) (a0_0 a0_1 a0_2 a0_3 a0_4 a0_5 a0_6 a0_7 a0_8 a0_9 a0_10 a0_11 a0_12 a0_13 a0_14 a0_15 a0_16 a0_17 a0_18 a0_19 a0_20 a0_21 a0_22 a0_23 a0_24 a0_25 a1_0 a1_1 : Int) (a2 : ByteArray) : Option (Bool) := if (a2.size : Int) > 1048576 then (some true) else ((laws_toStrokes.f a0_0 a0_1 a0_2 a0_3 a0_4 a0_5 a0_6 a0_7 a0_8 a0_9 a0_10 a0_11 a0_12 a0_13 a0_14 a0_15 a0_16 a0_17 a0_18 a0_19 a0_20 a0_21 a0_22 a0_23 a0_24 a0_25).bind fun bt185 => ((laws_toChisel.f a1_0 a1_1).bind fun bt211 => ((spec_LeastTime.f bt185.1 bt185.2.1 bt185.2.2.1 bt185.2.2.2.1 bt185.2.2.2.2.1 bt185.2.2.2.2.2.1 bt185.2.2.2.2.2.2.1 bt185.2.2.2.2.2.2.2.1 bt185.2.2.2.2.2.2.2.2.1 bt185.2.2.2.2.2.2.2.2.2.1 bt185.2.2.2.2.2.2.2.2.2.2.1 bt185.2.2.2.2.2.2.2.2.2.2.2.1 bt185.2.2.2.2.2.2.2.2.2.2.2.2.1 bt185.2.2.2.2.2.2.2.2.2.2.2.2.2.1 bt185.2.2.2.2.2.2.2.2.2.2.2.2.2.2.1 bt185.2.2.2.2.2.2.2.2.2.2.2.2.2.2.2.1 bt185.2.2.2.2.2.2.2.2.2.2.2.2.2.2.2.2.1 bt185.2.2.2.2.2.2.2.2.2.2.2.2.2.2.2.2.2.1 bt185.2.2.2.2.2.2.2.2.2.2.2.2.2.2.2.2.2.2.1 bt185.2.2.2.2.2.2.2.2.2.2.2.2.2.2.2.2.2.2.2.1 bt185.2.2.2.2.2.2.2.2.2.2.2.2.2.2.2.2.2.2.2.2.1 bt185.2.2.2.2.2.2.2.2.2.2.2.2.2.2.2.2.2.2.2.2.2.1 bt185.2.2.2.2.2.2.2.2.2.2.2.2.2.2.2.2.2.2.2.2.2.2.1 bt185.2.2.2.2.2.2.2.2.2.2.2.2.2.2.2.2.2.2.2.2.2.2.2.1 bt185.2.2.2.2.2.2.2.2.2.2.2.2.2.2.2.2.2.2.2.2.2.2.2.2.1 bt185.2.2.2.2.2.2.2.2.2.2.2.2.2.2.2.2.2.2.2.2.2.2.2.2.2 bt211.1 bt211.2 a2).bind fun bt213 => ((laws_toStrokes.f a0_0 a0_1 a0_2 a0_3 a0_4 a0_5 a0_6 a0_7 a0_8 a0_9 a0_10 a0_11 a0_12 a0_13 a0_14 a0_15 a0_16 a0_17 a0_18 a0_19 a0_20 a0_21 a0_22 a0_23 a0_24 a0_25).bind fun bt215 => ((laws_toChisel.f a1_0 a1_1).bind fun bt241 => ((impl_LeastTime.f k bt215.1 bt215.2.1 bt215.2.2.1 bt215.2.2.2.1 bt215.2.2.2.2.1 bt215.2.2.2.2.2.1 bt215.2.2.2.2.2.2.1 bt215.2.2.2.2.2.2.2.1 bt215.2.2.2.2.2.2.2.2.1 bt215.2.2.2.2.2.2.2.2.2.1 bt215.2.2.2.2.2.2.2.2.2.2.1 bt215.2.2.2.2.2.2.2.2.2.2.2.1 bt215.2.2.2.2.2.2.2.2.2.2.2.2.1 bt215.2.2.2.2.2.2.2.2.2.2.2.2.2.1 bt215.2.2.2.2.2.2.2.2.2.2.2.2.2.2.1 bt215.2.2.2.2.2.2.2.2.2.2.2.2.2.2.2.1 bt215.2.2.2.2.2.2.2.2.2.2.2.2.2.2.2.2.1 bt215.2.2.2.2.2.2.2.2.2.2.2.2.2.2.2.2.2.1 bt215.2.2.2.2.2.2.2.2.2.2.2.2.2.2.2.2.2.2.1 bt215.2.2.2.2.2.2.2.2.2.2.2.2.2.2.2.2.2.2.2.1 bt215.2.2.2.2.2.2.2.2.2.2.2.2.2.2.2.2.2.2.2.2.1 bt215.2.2.2.2.2.2.2.2.2.2.2.2.2.2.2.2.2.2.2.2.2.1 bt215.2.2.2.2.2.2.2.2.2.2.2.2.2.2.2.2.2.2.2.2.2.2.1 bt215.2.2.2.2.2.2.2.2.2.2.2.2.2.2.2.2.2.2.2.2.2.2.2.1 bt215.2.2.2.2.2.2.2.2.2.2.2.2.2.2.2.2.2.2.2.2.2.2.2.2.1 bt215.2.2.2.2.2.2.2.2.2.2.2.2.2.2.2.2.2.2.2.2.2.2.2.2.2 bt241.1 bt241.2 a2).bind fun bt243 => (if bt243.1 = bt213.1 then (if bt243.2 = bt213.2 then (some true) else (some false)) else (some false))))))))
theorem laws_FnExactLeastTime.mono : ∀ a0 a1 a2 a3 a4 a5 a6 a7 a8 a9 a10 a11 a12 a13 a14 a15 a16 a17 a18 a19 a20 a21 a22 a23 a24 a25 a26 a27 a28 k, LeO (laws_FnExactLeastTime.f k a0 a1 a2 a3 a4 a5 a6 a7 a8 a9 a10 a11 a12 a13 a14 a15 a16 a17 a18 a19 a20 a21 a22 a23 a24 a25 a26 a27 a28) (laws_FnExactLeastTime.f (k + 1) a0 a1 a2 a3 a4 a5 a6 a7 a8 a9 a10 a11 a12 a13 a14 a15 a16 a17 a18 a19 a20 a21 a22 a23 a24 a25 a26 a27 a28) := by
  intro a0 a1 a2 a3 a4 a5 a6 a7 a8 a9 a10 a11 a12 a13 a14 a15 a16 a17 a18 a19 a20 a21 a22 a23 a24 a25 a26 a27 a28 k
  unfold laws_FnExactLeastTime.f
  repeat' first
      | (with_reducible exact impl_LeastTime.mono _ _ _ _ _ _ _ _ _ _ _ _ _ _ _ _ _ _ _ _ _ _ _ _ _ _ _ _ _ _)
      | (with_reducible exact LeO.refl _)
      | (with_reducible exact LeO.none _)
      | (with_reducible refine LeO.ite ?_ ?_)
      | (with_reducible refine LeO.bind ?_ (fun _ => ?_))
      | exact impl_LeastTime.mono _ _ _ _ _ _ _ _ _ _ _ _ _ _ _ _ _ _ _ _ _ _ _ _ _ _ _ _ _ _
      | exact LeO.none _
      | refine LeO.ite ?_ ?_
      | refine LeO.bind ?_ (fun _ => ?_)
def laws_FnExactLeastTime.T3 : Bool × List (List Nat × List Nat) := (true, [([], []), ([0], [0]), ([], []), ([2, 1], [2]), ([], []), ([1, 3, 4, 3], [1, 3, 4]), ([5], [5]), ([6], [6]), ([6], [6]), ([7, 5, 0, 1, 2, 3, 4, 5, 6, 7], [7]), ([8, 9, 0, 1, 2, 3, 4, 5, 6, 7, 8, 9], [8])])
def laws_FnExactLeastTime.B3 : List Nat := [0, 1, 0, 7, 0, 31, 63, 127, 127, 255, 1023]
theorem laws_FnExactLeastTime.tab3 : rtab .any (opsOf Tryd.f3 3) = laws_FnExactLeastTime.T3 := by kernel_rfl
theorem laws_FnExactLeastTime.bits3 : waitsOk laws_FnExactLeastTime.T3.2 laws_FnExactLeastTime.B3 = true := by kernel_rfl
def laws_FnExactLeastTime.T4 : Bool × List (List Nat × List Nat) := (true, [([], []), ([0], [0]), ([], []), ([2, 1], [2]), ([], []), ([1, 3, 4, 3], [1, 3, 4]), ([5], [5]), ([6], [6]), ([6], [6]), ([7, 5, 0, 1, 2, 3, 4, 5, 6, 7], [7]), ([8, 9, 0, 1, 2, 3, 4, 5, 6, 7, 8, 9], [8])])
def laws_FnExactLeastTime.B4 : List Nat := [0, 1, 0, 7, 0, 31, 63, 127, 127, 255, 1023]
theorem laws_FnExactLeastTime.tab4 : rtab .any (opsOf Tryd.f3 4) = laws_FnExactLeastTime.T4 := by kernel_rfl
theorem laws_FnExactLeastTime.bits4 : waitsOk laws_FnExactLeastTime.T4.2 laws_FnExactLeastTime.B4 = true := by kernel_rfl
set_option maxHeartbeats 8000000 in
set_option maxRecDepth 100000 in
theorem laws_FnExactLeastTime.calls (k : Nat) (a0_0 a0_1 a0_2 a0_3 a0_4 a0_5 a0_6 a0_7 a0_8 a0_9 a0_10 a0_11 a0_12 a0_13 a0_14 a0_15 a0_16 a0_17 a0_18 a0_19 a0_20 a0_21 a0_22 a0_23 a0_24 a0_25 a1_0 a1_1 : Int) (a2 : ByteArray) (r : Bool) (w : World) (hG : GlobM w) (h : laws_FnExactLeastTime.f k a0_0 a0_1 a0_2 a0_3 a0_4 a0_5 a0_6 a0_7 a0_8 a0_9 a0_10 a0_11 a0_12 a0_13 a0_14 a0_15 a0_16 a0_17 a0_18 a0_19 a0_20 a0_21 a0_22 a0_23 a0_24 a0_25 a1_0 a1_1 a2 = some r) :
    Calls Tryd.prog 3 #[.agg #[.int .i8 a0_0, .int .i8 a0_1, .int .i8 a0_2, .int .i8 a0_3, .int .i8 a0_4, .int .i8 a0_5, .int .i8 a0_6, .int .i8 a0_7, .int .i8 a0_8, .int .i8 a0_9, .int .i8 a0_10, .int .i8 a0_11, .int .i8 a0_12, .int .i8 a0_13, .int .i8 a0_14, .int .i8 a0_15, .int .i8 a0_16, .int .i8 a0_17, .int .i8 a0_18, .int .i8 a0_19, .int .i8 a0_20, .int .i8 a0_21, .int .i8 a0_22, .int .i8 a0_23, .int .i8 a0_24, .int .i8 a0_25], .agg #[.int .i16 a1_0, .int .i8 a1_1], .string a2] w fun e w' => e = .returned (.bool r) ∧ Below w.heap.size w w' := by
  have HG := Aside0.mk hG
  clear hG
  have hu23 := Tryd.underlying23
  have hu26 := Tryd.underlying26
  have HB := Aside0.mk (Below.refl w.heap.size w)
  have H : (if (a2.size : Int) > 1048576 then (some true) else ((laws_toStrokes.f a0_0 a0_1 a0_2 a0_3 a0_4 a0_5 a0_6 a0_7 a0_8 a0_9 a0_10 a0_11 a0_12 a0_13 a0_14 a0_15 a0_16 a0_17 a0_18 a0_19 a0_20 a0_21 a0_22 a0_23 a0_24 a0_25).bind fun bt185 => ((laws_toChisel.f a1_0 a1_1).bind fun bt211 => ((spec_LeastTime.f bt185.1 bt185.2.1 bt185.2.2.1 bt185.2.2.2.1 bt185.2.2.2.2.1 bt185.2.2.2.2.2.1 bt185.2.2.2.2.2.2.1 bt185.2.2.2.2.2.2.2.1 bt185.2.2.2.2.2.2.2.2.1 bt185.2.2.2.2.2.2.2.2.2.1 bt185.2.2.2.2.2.2.2.2.2.2.1 bt185.2.2.2.2.2.2.2.2.2.2.2.1 bt185.2.2.2.2.2.2.2.2.2.2.2.2.1 bt185.2.2.2.2.2.2.2.2.2.2.2.2.2.1 bt185.2.2.2.2.2.2.2.2.2.2.2.2.2.2.1 bt185.2.2.2.2.2.2.2.2.2.2.2.2.2.2.2.1 bt185.2.2.2.2.2.2.2.2.2.2.2.2.2.2.2.2.1 bt185.2.2.2.2.2.2.2.2.2.2.2.2.2.2.2.2.2.1 bt185.2.2.2.2.2.2.2.2.2.2.2.2.2.2.2.2.2.2.1 bt185.2.2.2.2.2.2.2.2.2.2.2.2.2.2.2.2.2.2.2.1 bt185.2.2.2.2.2.2.2.2.2.2.2.2.2.2.2.2.2.2.2.2.1 bt185.2.2.2.2.2.2.2.2.2.2.2.2.2.2.2.2.2.2.2.2.2.1 bt185.2.2.2.2.2.2.2.2.2.2.2.2.2.2.2.2.2.2.2.2.2.2.1 bt185.2.2.2.2.2.2.2.2.2.2.2.2.2.2.2.2.2.2.2.2.2.2.2.1 bt185.2.2.2.2.2.2.2.2.2.2.2.2.2.2.2.2.2.2.2.2.2.2.2.2.1 bt185.2.2.2.2.2.2.2.2.2.2.2.2.2.2.2.2.2.2.2.2.2.2.2.2.2 bt211.1 bt211.2 a2).bind fun bt213 => ((laws_toStrokes.f a0_0 a0_1 a0_2 a0_3 a0_4 a0_5 a0_6 a0_7 a0_8 a0_9 a0_10 a0_11 a0_12 a0_13 a0_14 a0_15 a0_16 a0_17 a0_18 a0_19 a0_20 a0_21 a0_22 a0_23 a0_24 a0_25).bind fun bt215 => ((laws_toChisel.f a1_0 a1_1).bind fun bt241 => ((impl_LeastTime.f k bt215.1 bt215.2.1 bt215.2.2.1 bt215.2.2.2.1 bt215.2.2.2.2.1 bt215.2.2.2.2.2.1 bt215.2.2.2.2.2.2.1 bt215.2.2.2.2.2.2.2.1 bt215.2.2.2.2.2.2.2.2.1 bt215.2.2.2.2.2.2.2.2.2.1 bt215.2.2.2.2.2.2.2.2.2.2.1 bt215.2.2.2.2.2.2.2.2.2.2.2.1 bt215.2.2.2.2.2.2.2.2.2.2.2.2.1 bt215.2.2.2.2.2.2.2.2.2.2.2.2.2.1 bt215.2.2.2.2.2.2.2.2.2.2.2.2.2.2.1 bt215.2.2.2.2.2.2.2.2.2.2.2.2.2.2.2.1 bt215.2.2.2.2.2.2.2.2.2.2.2.2.2.2.2.2.1 bt215.2.2.2.2.2.2.2.2.2.2.2.2.2.2.2.2.2.1 bt215.2.2.2.2.2.2.2.2.2.2.2.2.2.2.2.2.2.2.1 bt215.2.2.2.2.2.2.2.2.2.2.2.2.2.2.2.2.2.2.2.1 bt215.2.2.2.2.2.2.2.2.2.2.2.2.2.2.2.2.2.2.2.2.1 bt215.2.2.2.2.2.2.2.2.2.2.2.2.2.2.2.2.2.2.2.2.2.1 bt215.2.2.2.2.2.2.2.2.2.2.2.2.2.2.2.2.2.2.2.2.2.2.1 bt215.2.2.2.2.2.2.2.2.2.2.2.2.2.2.2.2.2.2.2.2.2.2.2.1 bt215.2.2.2.2.2.2.2.2.2.2.2.2.2.2.2.2.2.2.2.2.2.2.2.2.1 bt215.2.2.2.2.2.2.2.2.2.2.2.2.2.2.2.2.2.2.2.2.2.2.2.2.2 bt241.1 bt241.2 a2).bind fun bt243 => (if bt243.1 = bt213.1 then (if bt243.2 = bt213.2 then (some true) else (some false)) else (some false))))))))) = some r := h
  clear h
  by_cases c4 : (a2.size : Int) > 1048576
  · rw [if_pos c4] at H
    have c4b0 : decide (1048576 < (a2.size : Int)) = true := decide_eq_true c4
    have c4b1 : decide (1048576 < a2.size) = true := decide_eq_true (by omega)
    clear c4
    obtain rfl := Option.some.inj H
    go_enter Tryd.func3, Tryd.ntmps3
    go_wp2_with (first | ((with_reducible refine gate_dst (N := 3) rfl ?_); refine box_event ?hg (N := 3) ?hd (cs := #[.int .i8 a0_0, .int .i8 a0_1, .int .i8 a0_2, .int .i8 a0_3, .int .i8 a0_4, .int .i8 a0_5, .int .i8 a0_6, .int .i8 a0_7, .int .i8 a0_8, .int .i8 a0_9, .int .i8 a0_10, .int .i8 a0_11, .int .i8 a0_12, .int .i8 a0_13, .int .i8 a0_14, .int .i8 a0_15, .int .i8 a0_16, .int .i8 a0_17, .int .i8 a0_18, .int .i8 a0_19, .int .i8 a0_20, .int .i8 a0_21, .int .i8 a0_22, .int .i8 a0_23, .int .i8 a0_24, .int .i8 a0_25]) (t := 23) ?hr ?_; (case hd => rfl); (case hg => rfl); (case hr => first | (go_simp; done) | (go_simp; rfl)); intro gb183 hg w5 hbox hb; have n0_ := Aside0.mk (below_step (by repeat (first | (with_reducible first | exact HB.out | apply below_alloc | apply pw_below_drewN | apply below_drew1) | exact HB.out)) hb); have n1_ := Aside0.mk (hbox); have n2_ := Aside0.mk ((by rw [hg]; exact (below_size (by repeat (first | (with_reducible first | exact HB.out | apply below_alloc | apply pw_below_drewN | apply below_drew1) | exact HB.out))) : w.heap.size ≤ gb183)); have n3_ := Aside0.mk (n2_.out); clear HB; have HB := n0_; have BK183 := n1_; have GW183 := n2_; have GE183 := n3_; clear n0_ n1_ n2_ n3_; clear hb hbox hg) | ((with_reducible refine gate_dst (N := 4) rfl ?_); refine box_event ?hg (N := 4) ?hd (cs := #[.int .i16 a1_0, .int .i8 a1_1]) (t := 26) ?hr ?_; (case hd => rfl); (case hg => rfl); (case hr => first | (go_simp; done) | (go_simp; rfl)); intro gb184 hg w6 hbox hb; have n0_ := Aside0.mk (blk_below (g := gb183) (by (with_reducible repeat (first | refine blk_drewN ?_ _ | refine blk_drew ?_ | refine blk_alloc ?_ _)); exact BK183.out) hb); have n1_ := Aside0.mk (below_step (by repeat (first | (with_reducible first | exact HB.out | apply below_alloc | apply pw_below_drewN | apply below_drew1 | refine below_set ?_ GE183.out) | exact HB.out)) hb); have n2_ := Aside0.mk (hbox); have n3_ := Aside0.mk ((by rw [hg]; exact (below_size (by repeat (first | (with_reducible first | exact HB.out | apply below_alloc | apply pw_below_drewN | apply below_drew1 | refine below_set ?_ GE183.out) | exact HB.out))) : w.heap.size ≤ gb184)); have n4_ := Aside0.mk (n3_.out); have n5_ := Aside0.mk ((by rw [hg]; exact Nat.ne_of_lt (blk_lt (g := gb183) (by (with_reducible repeat (first | refine blk_drewN ?_ _ | refine blk_drew ?_ | refine blk_alloc ?_ _)); exact BK183.out)) : gb183 ≠ gb184)); have n6_ := Aside0.mk ((Ne.symm n5_.out)); clear BK183; clear HB; have BK183 := n0_; have HB := n1_; have BK184 := n2_; have GW184 := n3_; have GE184 := n4_; have NB183_184 := n5_; have NB184_183 := n6_; clear n0_ n1_ n2_ n3_ n4_ n5_ n6_; clear hb hbox hg))
    go_ret
    exact ⟨by first | rfl | (simp [errW_none, errW_some, i64_w]; done) | (simp [errW_none, errW_some] <;> rfl) | (simp [*, errW_none, errW_some] <;> rfl), by repeat (first | (with_reducible first | exact HB.out | apply below_alloc | apply pw_below_drewN | apply below_drew1 | refine below_set ?_ GE183.out | refine below_set ?_ GE184.out) | exact HB.out)⟩
  · rw [if_neg c4] at H
    have c4b0 : decide (1048576 < (a2.size : Int)) = false := decide_eq_false c4
    have c4b1 : decide (1048576 < a2.size) = false := decide_eq_false (by omega)
    clear c4
    replace H := Option.bind_eq_some_iff.mp H
    obtain ⟨⟨t185, t186, t187, t188, t189, t190, t191, t192, t193, t194, t195, t196, t197, t198, t199, t200, t201, t202, t203, t204, t205, t206, t207, t208, t209, t210⟩, A70, H⟩ := H
    replace H : ((laws_toChisel.f a1_0 a1_1).bind fun bt211 => ((spec_LeastTime.f t185 t186 t187 t188 t189 t190 t191 t192 t193 t194 t195 t196 t197 t198 t199 t200 t201 t202 t203 t204 t205 t206 t207 t208 t209 t210 bt211.1 bt211.2 a2).bind fun bt213 => ((laws_toStrokes.f a0_0 a0_1 a0_2 a0_3 a0_4 a0_5 a0_6 a0_7 a0_8 a0_9 a0_10 a0_11 a0_12 a0_13 a0_14 a0_15 a0_16 a0_17 a0_18 a0_19 a0_20 a0_21 a0_22 a0_23 a0_24 a0_25).bind fun bt215 => ((laws_toChisel.f a1_0 a1_1).bind fun bt241 => ((impl_LeastTime.f k bt215.1 bt215.2.1 bt215.2.2.1 bt215.2.2.2.1 bt215.2.2.2.2.1 bt215.2.2.2.2.2.1 bt215.2.2.2.2.2.2.1 bt215.2.2.2.2.2.2.2.1 bt215.2.2.2.2.2.2.2.2.1 bt215.2.2.2.2.2.2.2.2.2.1 bt215.2.2.2.2.2.2.2.2.2.2.1 bt215.2.2.2.2.2.2.2.2.2.2.2.1 bt215.2.2.2.2.2.2.2.2.2.2.2.2.1 bt215.2.2.2.2.2.2.2.2.2.2.2.2.2.1 bt215.2.2.2.2.2.2.2.2.2.2.2.2.2.2.1 bt215.2.2.2.2.2.2.2.2.2.2.2.2.2.2.2.1 bt215.2.2.2.2.2.2.2.2.2.2.2.2.2.2.2.2.1 bt215.2.2.2.2.2.2.2.2.2.2.2.2.2.2.2.2.2.1 bt215.2.2.2.2.2.2.2.2.2.2.2.2.2.2.2.2.2.2.1 bt215.2.2.2.2.2.2.2.2.2.2.2.2.2.2.2.2.2.2.2.1 bt215.2.2.2.2.2.2.2.2.2.2.2.2.2.2.2.2.2.2.2.2.1 bt215.2.2.2.2.2.2.2.2.2.2.2.2.2.2.2.2.2.2.2.2.2.1 bt215.2.2.2.2.2.2.2.2.2.2.2.2.2.2.2.2.2.2.2.2.2.2.1 bt215.2.2.2.2.2.2.2.2.2.2.2.2.2.2.2.2.2.2.2.2.2.2.2.1 bt215.2.2.2.2.2.2.2.2.2.2.2.2.2.2.2.2.2.2.2.2.2.2.2.2.1 bt215.2.2.2.2.2.2.2.2.2.2.2.2.2.2.2.2.2.2.2.2.2.2.2.2.2 bt241.1 bt241.2 a2).bind fun bt243 => (if bt243.1 = bt213.1 then (if bt243.2 = bt213.2 then (some true) else (some false)) else (some false))))))) = some r := H
    have A7 := Aside0.mk A70
    clear A70
    replace H := Option.bind_eq_some_iff.mp H
    obtain ⟨⟨t211, t212⟩, A80, H⟩ := H
    replace H : ((spec_LeastTime.f t185 t186 t187 t188 t189 t190 t191 t192 t193 t194 t195 t196 t197 t198 t199 t200 t201 t202 t203 t204 t205 t206 t207 t208 t209 t210 t211 t212 a2).bind fun bt213 => ((laws_toStrokes.f a0_0 a0_1 a0_2 a0_3 a0_4 a0_5 a0_6 a0_7 a0_8 a0_9 a0_10 a0_11 a0_12 a0_13 a0_14 a0_15 a0_16 a0_17 a0_18 a0_19 a0_20 a0_21 a0_22 a0_23 a0_24 a0_25).bind fun bt215 => ((laws_toChisel.f a1_0 a1_1).bind fun bt241 => ((impl_LeastTime.f k bt215.1 bt215.2.1 bt215.2.2.1 bt215.2.2.2.1 bt215.2.2.2.2.1 bt215.2.2.2.2.2.1 bt215.2.2.2.2.2.2.1 bt215.2.2.2.2.2.2.2.1 bt215.2.2.2.2.2.2.2.2.1 bt215.2.2.2.2.2.2.2.2.2.1 bt215.2.2.2.2.2.2.2.2.2.2.1 bt215.2.2.2.2.2.2.2.2.2.2.2.1 bt215.2.2.2.2.2.2.2.2.2.2.2.2.1 bt215.2.2.2.2.2.2.2.2.2.2.2.2.2.1 bt215.2.2.2.2.2.2.2.2.2.2.2.2.2.2.1 bt215.2.2.2.2.2.2.2.2.2.2.2.2.2.2.2.1 bt215.2.2.2.2.2.2.2.2.2.2.2.2.2.2.2.2.1 bt215.2.2.2.2.2.2.2.2.2.2.2.2.2.2.2.2.2.1 bt215.2.2.2.2.2.2.2.2.2.2.2.2.2.2.2.2.2.2.1 bt215.2.2.2.2.2.2.2.2.2.2.2.2.2.2.2.2.2.2.2.1 bt215.2.2.2.2.2.2.2.2.2.2.2.2.2.2.2.2.2.2.2.2.1 bt215.2.2.2.2.2.2.2.2.2.2.2.2.2.2.2.2.2.2.2.2.2.1 bt215.2.2.2.2.2.2.2.2.2.2.2.2.2.2.2.2.2.2.2.2.2.2.1 bt215.2.2.2.2.2.2.2.2.2.2.2.2.2.2.2.2.2.2.2.2.2.2.2.1 bt215.2.2.2.2.2.2.2.2.2.2.2.2.2.2.2.2.2.2.2.2.2.2.2.2.1 bt215.2.2.2.2.2.2.2.2.2.2.2.2.2.2.2.2.2.2.2.2.2.2.2.2.2 bt241.1 bt241.2 a2).bind fun bt243 => (if bt243.1 = bt213.1 then (if bt243.2 = bt213.2 then (some true) else (some false)) else (some false)))))) = some r := H
    have A8 := Aside0.mk A80
    clear A80
    replace H := Option.bind_eq_some_iff.mp H
    obtain ⟨⟨t213, t214⟩, A90, H⟩ := H
    replace H : ((laws_toStrokes.f a0_0 a0_1 a0_2 a0_3 a0_4 a0_5 a0_6 a0_7 a0_8 a0_9 a0_10 a0_11 a0_12 a0_13 a0_14 a0_15 a0_16 a0_17 a0_18 a0_19 a0_20 a0_21 a0_22 a0_23 a0_24 a0_25).bind fun bt215 => ((laws_toChisel.f a1_0 a1_1).bind fun bt241 => ((impl_LeastTime.f k bt215.1 bt215.2.1 bt215.2.2.1 bt215.2.2.2.1 bt215.2.2.2.2.1 bt215.2.2.2.2.2.1 bt215.2.2.2.2.2.2.1 bt215.2.2.2.2.2.2.2.1 bt215.2.2.2.2.2.2.2.2.1 bt215.2.2.2.2.2.2.2.2.2.1 bt215.2.2.2.2.2.2.2.2.2.2.1 bt215.2.2.2.2.2.2.2.2.2.2.2.1 bt215.2.2.2.2.2.2.2.2.2.2.2.2.1 bt215.2.2.2.2.2.2.2.2.2.2.2.2.2.1 bt215.2.2.2.2.2.2.2.2.2.2.2.2.2.2.1 bt215.2.2.2.2.2.2.2.2.2.2.2.2.2.2.2.1 bt215.2.2.2.2.2.2.2.2.2.2.2.2.2.2.2.2.1 bt215.2.2.2.2.2.2.2.2.2.2.2.2.2.2.2.2.2.1 bt215.2.2.2.2.2.2.2.2.2.2.2.2.2.2.2.2.2.2.1 bt215.2.2.2.2.2.2.2.2.2.2.2.2.2.2.2.2.2.2.2.1 bt215.2.2.2.2.2.2.2.2.2.2.2.2.2.2.2.2.2.2.2.2.1 bt215.2.2.2.2.2.2.2.2.2.2.2.2.2.2.2.2.2.2.2.2.2.1 bt215.2.2.2.2.2.2.2.2.2.2.2.2.2.2.2.2.2.2.2.2.2.2.1 bt215.2.2.2.2.2.2.2.2.2.2.2.2.2.2.2.2.2.2.2.2.2.2.2.1 bt215.2.2.2.2.2.2.2.2.2.2.2.2.2.2.2.2.2.2.2.2.2.2.2.2.1 bt215.2.2.2.2.2.2.2.2.2.2.2.2.2.2.2.2.2.2.2.2.2.2.2.2.2 bt241.1 bt241.2 a2).bind fun bt243 => (if bt243.1 = t213 then (if bt243.2 = t214 then (some true) else (some false)) else (some false))))) = some r := H
    have A9 := Aside0.mk A90
    clear A90
    replace H := Option.bind_eq_some_iff.mp H
    obtain ⟨⟨t215, t216, t217, t218, t219, t220, t221, t222, t223, t224, t225, t226, t227, t228, t229, t230, t231, t232, t233, t234, t235, t236, t237, t238, t239, t240⟩, A100, H⟩ := H
    replace H : ((laws_toChisel.f a1_0 a1_1).bind fun bt241 => ((impl_LeastTime.f k t215 t216 t217 t218 t219 t220 t221 t222 t223 t224 t225 t226 t227 t228 t229 t230 t231 t232 t233 t234 t235 t236 t237 t238 t239 t240 bt241.1 bt241.2 a2).bind fun bt243 => (if bt243.1 = t213 then (if bt243.2 = t214 then (some true) else (some false)) else (some false)))) = some r := H
    have A10 := Aside0.mk A100
    clear A100
    replace H := Option.bind_eq_some_iff.mp H
    obtain ⟨⟨t241, t242⟩, A110, H⟩ := H
    replace H : ((impl_LeastTime.f k t215 t216 t217 t218 t219 t220 t221 t222 t223 t224 t225 t226 t227 t228 t229 t230 t231 t232 t233 t234 t235 t236 t237 t238 t239 t240 t241 t242 a2).bind fun bt243 => (if bt243.1 = t213 then (if bt243.2 = t214 then (some true) else (some false)) else (some false))) = some r := H
    have A11 := Aside0.mk A110
    clear A110
    replace H := Option.bind_eq_some_iff.mp H
    obtain ⟨⟨t243, t244⟩, A120, H⟩ := H
    replace H : (if t243 = t213 then (if t244 = t214 then (some true) else (some false)) else (some false)) = some r := H
    have A12 := Aside0.mk A120
    clear A120
    by_cases c13 : t243 = t213
    · rw [if_pos c13] at H
      have c13b0 : (t243 == t213) = true := beq_iff_eq.mpr c13
      have c13b1 : (t243 != t213) = false := bne_eq_false_iff_eq.mpr c13
      clear c13
      by_cases c14 : t244 = t214
      · rw [if_pos c14] at H
        have c14b0 : (t244 == t214) = true := beq_iff_eq.mpr c14
        have c14b1 : (t244 != t214) = false := bne_eq_false_iff_eq.mpr c14
        clear c14
        obtain rfl := Option.some.inj H
        go_enter Tryd.func3, Tryd.ntmps3
        try go_wp2_with (first | ((with_reducible refine gate_dst (N := 3) rfl ?_); refine box_event ?hg (N := 3) ?hd (cs := #[.int .i8 a0_0, .int .i8 a0_1, .int .i8 a0_2, .int .i8 a0_3, .int .i8 a0_4, .int .i8 a0_5, .int .i8 a0_6, .int .i8 a0_7, .int .i8 a0_8, .int .i8 a0_9, .int .i8 a0_10, .int .i8 a0_11, .int .i8 a0_12, .int .i8 a0_13, .int .i8 a0_14, .int .i8 a0_15, .int .i8 a0_16, .int .i8 a0_17, .int .i8 a0_18, .int .i8 a0_19, .int .i8 a0_20, .int .i8 a0_21, .int .i8 a0_22, .int .i8 a0_23, .int .i8 a0_24, .int .i8 a0_25]) (t := 23) ?hr ?_; (case hd => rfl); (case hg => rfl); (case hr => first | (go_simp; done) | (go_simp; rfl)); intro gb183 hg w15 hbox hb; have n0_ := Aside0.mk (below_step (by repeat (first | (with_reducible first | exact HB.out | apply below_alloc | apply pw_below_drewN | apply below_drew1) | exact HB.out)) hb); have n1_ := Aside0.mk (hbox); have n2_ := Aside0.mk ((by rw [hg]; exact (below_size (by repeat (first | (with_reducible first | exact HB.out | apply below_alloc | apply pw_below_drewN | apply below_drew1) | exact HB.out))) : w.heap.size ≤ gb183)); have n3_ := Aside0.mk (n2_.out); clear HB; have HB := n0_; have BK183 := n1_; have GW183 := n2_; have GE183 := n3_; clear n0_ n1_ n2_ n3_; clear hb hbox hg) | ((with_reducible refine gate_dst (N := 4) rfl ?_); refine box_event ?hg (N := 4) ?hd (cs := #[.int .i16 a1_0, .int .i8 a1_1]) (t := 26) ?hr ?_; (case hd => rfl); (case hg => rfl); (case hr => first | (go_simp; done) | (go_simp; rfl)); intro gb184 hg w16 hbox hb; have n0_ := Aside0.mk (blk_below (g := gb183) (by (with_reducible repeat (first | refine blk_drewN ?_ _ | refine blk_drew ?_ | refine blk_alloc ?_ _)); exact BK183.out) hb); have n1_ := Aside0.mk (below_step (by repeat (first | (with_reducible first | exact HB.out | apply below_alloc | apply pw_below_drewN | apply below_drew1 | refine below_set ?_ GE183.out) | exact HB.out)) hb); have n2_ := Aside0.mk (hbox); have n3_ := Aside0.mk ((by rw [hg]; exact (below_size (by repeat (first | (with_reducible first | exact HB.out | apply below_alloc | apply pw_below_drewN | apply below_drew1 | refine below_set ?_ GE183.out) | exact HB.out))) : w.heap.size ≤ gb184)); have n4_ := Aside0.mk (n3_.out); have n5_ := Aside0.mk ((by rw [hg]; exact Nat.ne_of_lt (blk_lt (g := gb183) (by (with_reducible repeat (first | refine blk_drewN ?_ _ | refine blk_drew ?_ | refine blk_alloc ?_ _)); exact BK183.out)) : gb183 ≠ gb184)); have n6_ := Aside0.mk ((Ne.symm n5_.out)); clear BK183; clear HB; have BK183 := n0_; have HB := n1_; have BK184 := n2_; have GW184 := n3_; have GE184 := n4_; have NB183_184 := n5_; have NB184_183 := n6_; clear n0_ n1_ n2_ n3_ n4_ n5_ n6_; clear hb hbox hg))
        have n0_ := Aside0.mk (blk_drew BK183.out)
        have n1_ := Aside0.mk (blk_drew BK184.out)
        have n2_ := Aside0.mk (below_drew1 HB.out)
        clear BK183
        clear BK184
        clear HB
        have BK183 := n0_
        have BK184 := n1_
        have HB := n2_
        clear n0_ n1_ n2_
        refine start_ (n := 11) (S := fun w' => w'.cell? ⟨gb184, 0, none⟩ = some (.int .i16 a1_0) ∧ w'.cell? ⟨gb184, 1, none⟩ = some (.int .i8 a1_1) ∧ w'.heap[gb183]? = some (.cells #[.int .i8 a0_0, .int .i8 a0_1, .int .i8 a0_2, .int .i8 a0_3, .int .i8 a0_4, .int .i8 a0_5, .int .i8 a0_6, .int .i8 a0_7, .int .i8 a0_8, .int .i8 a0_9, .int .i8 a0_10, .int .i8 a0_11, .int .i8 a0_12, .int .i8 a0_13, .int .i8 a0_14, .int .i8 a0_15, .int .i8 a0_16, .int .i8 a0_17, .int .i8 a0_18, .int .i8 a0_19, .int .i8 a0_20, .int .i8 a0_21, .int .i8 a0_22, .int .i8 a0_23, .int .i8 a0_24, .int .i8 a0_25] 23 (0, 0))) (ds := []) #[false, false, false, false, false, false, false, false, false, false, false] (by kernel_rfl) rfl rfl ⟨(blk_cell BK184.out 0).trans rfl, (blk_cell BK184.out 1).trans rfl, BK183.out⟩ (fun hHeld => ?_); refine with_tabW laws_FnExactLeastTime.tab3 laws_FnExactLeastTime.bits3 (fun HT_ HW_ => ?_)
        generalize w16.drew = w17 at BK183 BK184 HB hHeld ⊢
        refine pure_ (i := 4) (N := some 19) (v := ?_) (a' := ?_) #[false, false, false, false, true, false, false, false, false, false, false] rfl rfl (any_of HT_.out (by kernel_rfl)) (fun _ _ _ h => h) (Or.inl ⟨by rfl, ?_⟩) ?_ ?_
        rotate_left
        · intro w'
          go_simp
          with_reducible rfl
        rotate_left
        · simp only [Act.put, List.setIfInBounds_toArray, List.set_cons_zero, List.set_cons_succ, i64_w, i32_w, u8_w_]
          rfl
        refine take_ (i := 0) (N := some 15) (v := ?_) (a' := ?_) #[true, false, false, false, true, false, false, false, false, false, false] rfl rfl (take_ofW HT_.out HW_.out (by kernel_rfl)) (fun _ _ _ h => h) (Or.inl ⟨by rfl, ?_⟩) hHeld ?_ ?_
        rotate_left
        · rintro w' ⟨s0, s1, s2⟩
          refine exec_load_partx_ 23 (.tmp 3) _ 0 [] [.int .i8 a0_0, .int .i8 a0_1, .int .i8 a0_2, .int .i8 a0_3, .int .i8 a0_4, .int .i8 a0_5, .int .i8 a0_6, .int .i8 a0_7, .int .i8 a0_8, .int .i8 a0_9, .int .i8 a0_10, .int .i8 a0_11, .int .i8 a0_12, .int .i8 a0_13, .int .i8 a0_14, .int .i8 a0_15, .int .i8 a0_16, .int .i8 a0_17, .int .i8 a0_18, .int .i8 a0_19, .int .i8 a0_20, .int .i8 a0_21, .int .i8 a0_22, .int .i8 a0_23, .int .i8 a0_24, .int .i8 a0_25] [] rfl s2 ?_ ?_ Tryd.underlying23 rfl (by exact (show (Tryd.prog.info? 23).map (·.size) = some 26 by kernel_rfl))
          · rfl
          · rfl
        rotate_left
        · simp only [Act.put, List.setIfInBounds_toArray, List.set_cons_zero, List.set_cons_succ, i64_w, i32_w, u8_w_]
          rfl
        refine take_ (i := 2) (N := some 17) (v := ?_) (a' := ?_) #[true, false, true, false, true, false, false, false, false, false, false] rfl rfl (take_ofW HT_.out HW_.out (by kernel_rfl)) (fun _ _ _ h => h) (Or.inl ⟨by rfl, ?_⟩) hHeld ?_ ?_
        rotate_left
        · rintro w' ⟨s0, s1, s2⟩
          go_simp
          with_reducible rfl
        rotate_left
        · simp only [Act.put, List.setIfInBounds_toArray, List.set_cons_zero, List.set_cons_succ, i64_w, i32_w, u8_w_]
          rfl
        refine one_ (i := 1) (N := some 16) #[true, true, true, false, true, false, false, false, false, false, false] rfl rfl (one_of HT_.out (by kernel_rfl)) (by decide) (fun K hK => ?_)
        refine goes_ Tryd.func8 (by kernel_rfl) rfl #[.agg #[.int .i8 a0_0, .int .i8 a0_1, .int .i8 a0_2, .int .i8 a0_3, .int .i8 a0_4, .int .i8 a0_5, .int .i8 a0_6, .int .i8 a0_7, .int .i8 a0_8, .int .i8 a0_9, .int .i8 a0_10, .int .i8 a0_11, .int .i8 a0_12, .int .i8 a0_13, .int .i8 a0_14, .int .i8 a0_15, .int .i8 a0_16, .int .i8 a0_17, .int .i8 a0_18, .int .i8 a0_19, .int .i8 a0_20, .int .i8 a0_21, .int .i8 a0_22, .int .i8 a0_23, .int .i8 a0_24, .int .i8 a0_25]] (by rfl) rfl rfl (by (try simp only [List.map_toArray, List.map_cons, List.map_nil]); first | done | rfl | (simp only [List.length_drop, List.length_take]; rfl)) ?_
        with_reducible refine (laws_toStrokes.calls a0_0 a0_1 a0_2 a0_3 a0_4 a0_5 a0_6 a0_7 a0_8 a0_9 a0_10 a0_11 a0_12 a0_13 a0_14 a0_15 a0_16 a0_17 a0_18 a0_19 a0_20 a0_21 a0_22 a0_23 a0_24 a0_25 t185 t186 t187 t188 t189 t190 t191 t192 t193 t194 t195 t196 t197 t198 t199 t200 t201 t202 t203 t204 t205 t206 t207 t208 t209 t210 _ A7.out).mono ?_
        rintro e w18 ⟨rfl, hb⟩
        refine ⟨_, rfl, ?_⟩
        have n0_ := Aside0.mk (blk_below (g := gb183) (by (with_reducible repeat (first | refine blk_drewN ?_ _ | refine blk_drew ?_ | refine blk_alloc ?_ _)); exact BK183.out) hb)
        have n1_ := Aside0.mk (blk_below (g := gb184) (by (with_reducible repeat (first | refine blk_drewN ?_ _ | refine blk_drew ?_ | refine blk_alloc ?_ _)); exact BK184.out) hb)
        have n2_ := Aside0.mk (below_step (by repeat (first | (with_reducible first | exact HB.out | apply below_alloc | apply pw_below_drewN | apply below_drew1 | refine below_set ?_ GE183.out | refine below_set ?_ GE184.out) | exact HB.out)) hb)
        clear BK183
        clear BK184
        clear HB
        have BK183 := n0_
        have BK184 := n1_
        have HB := n2_
        clear n0_ n1_ n2_
        (try clear hb)
        (try clear hb2)
        (try clear hk)
        (try clear hi)
        refine hK.out _ _ ⟨(blk_cell BK184.out 0).trans rfl, (blk_cell BK184.out 1).trans rfl, BK183.out⟩ (fun hHeld => ?_)
        clear hK K
        refine norm_ (a' := ?_) ?_ ?_
        rotate_left
        · show Act.put _ (some 16) _ = _
          simp only [Act.put, List.setIfInBounds_toArray, List.set_cons_zero, List.set_cons_succ, i64_w, i32_w, u8_w_]
          rfl
        refine one_ (i := 3) (N := some 18) #[true, true, true, true, true, false, false, false, false, false, false] rfl rfl (one_of HT_.out (by kernel_rfl)) (by decide) (fun K hK => ?_)
        refine goes_ Tryd.func9 (by kernel_rfl) rfl #[.agg #[.int .i16 a1_0, .int .i8 a1_1]] (by rfl) rfl rfl (by (try simp only [List.map_toArray, List.map_cons, List.map_nil]); first | done | rfl | (simp only [List.length_drop, List.length_take]; rfl)) ?_
        with_reducible refine (laws_toChisel.calls a1_0 a1_1 t211 t212 _ A8.out).mono ?_
        rintro e w19 ⟨rfl, hb⟩
        refine ⟨_, rfl, ?_⟩
        have n0_ := Aside0.mk (blk_below (g := gb183) (by (with_reducible repeat (first | refine blk_drewN ?_ _ | refine blk_drew ?_ | refine blk_alloc ?_ _)); exact BK183.out) hb)
        have n1_ := Aside0.mk (blk_below (g := gb184) (by (with_reducible repeat (first | refine blk_drewN ?_ _ | refine blk_drew ?_ | refine blk_alloc ?_ _)); exact BK184.out) hb)
        have n2_ := Aside0.mk (below_step (by repeat (first | (with_reducible first | exact HB.out | apply below_alloc | apply pw_below_drewN | apply below_drew1 | refine below_set ?_ GE183.out | refine below_set ?_ GE184.out) | exact HB.out)) hb)
        clear BK183
        clear BK184
        clear HB
        have BK183 := n0_
        have BK184 := n1_
        have HB := n2_
        clear n0_ n1_ n2_
        (try clear hb)
        (try clear hb2)
        (try clear hk)
        (try clear hi)
        refine hK.out _ _ ⟨(blk_cell BK184.out 0).trans rfl, (blk_cell BK184.out 1).trans rfl, BK183.out⟩ (fun hHeld => ?_)
        clear hK K
        refine norm_ (a' := ?_) ?_ ?_
        rotate_left
        · show Act.put _ (some 18) _ = _
          simp only [Act.put, List.setIfInBounds_toArray, List.set_cons_zero, List.set_cons_succ, i64_w, i32_w, u8_w_]
          rfl
        refine one_ (i := 5) (N := some 20) #[true, true, true, true, true, true, false, false, false, false, false] rfl rfl (one_of HT_.out (by kernel_rfl)) (by decide) (fun K hK => ?_)
        refine goes_ Tryd.func7 (by kernel_rfl) rfl #[.agg #[.int .i8 t185, .int .i8 t186, .int .i8 t187, .int .i8 t188, .int .i8 t189, .int .i8 t190, .int .i8 t191, .int .i8 t192, .int .i8 t193, .int .i8 t194, .int .i8 t195, .int .i8 t196, .int .i8 t197, .int .i8 t198, .int .i8 t199, .int .i8 t200, .int .i8 t201, .int .i8 t202, .int .i8 t203, .int .i8 t204, .int .i8 t205, .int .i8 t206, .int .i8 t207, .int .i8 t208, .int .i8 t209, .int .i8 t210], .agg #[.int .i16 t211, .int .i8 t212], .string a2] (by rfl) rfl rfl (by (try simp only [List.map_toArray, List.map_cons, List.map_nil]); first | done | rfl | (simp only [List.length_drop, List.length_take]; rfl)) ?_
        with_reducible refine (spec_LeastTime.calls t185 t186 t187 t188 t189 t190 t191 t192 t193 t194 t195 t196 t197 t198 t199 t200 t201 t202 t203 t204 t205 t206 t207 t208 t209 t210 t211 t212 a2 t213 t214 _ A9.out).mono ?_
        rintro e w20 ⟨rfl, hb⟩
        refine ⟨_, rfl, ?_⟩
        have n0_ := Aside0.mk (blk_below (g := gb183) (by (with_reducible repeat (first | refine blk_drewN ?_ _ | refine blk_drew ?_ | refine blk_alloc ?_ _)); exact BK183.out) hb)
        have n1_ := Aside0.mk (blk_below (g := gb184) (by (with_reducible repeat (first | refine blk_drewN ?_ _ | refine blk_drew ?_ | refine blk_alloc ?_ _)); exact BK184.out) hb)
        have n2_ := Aside0.mk (below_step (by repeat (first | (with_reducible first | exact HB.out | apply below_alloc | apply pw_below_drewN | apply below_drew1 | refine below_set ?_ GE183.out | refine below_set ?_ GE184.out) | exact HB.out)) hb)
        clear BK183
        clear BK184
        clear HB
        have BK183 := n0_
        have BK184 := n1_
        have HB := n2_
        clear n0_ n1_ n2_
        (try clear hb)
        (try clear hb2)
        (try clear hk)
        (try clear hi)
        refine hK.out _ _ ⟨(blk_cell BK184.out 0).trans rfl, (blk_cell BK184.out 1).trans rfl, BK183.out⟩ (fun hHeld => ?_)
        clear hK K
        refine norm_ (a' := ?_) ?_ ?_
        rotate_left
        · show Act.put _ (some 20) _ = _
          simp only [Act.put, List.setIfInBounds_toArray, List.set_cons_zero, List.set_cons_succ, i64_w, i32_w, u8_w_]
          rfl
        refine pure_ (i := 6) (N := some 14) (v := ?_) (a' := ?_) #[true, true, true, true, true, true, true, false, false, false, false] rfl rfl (any_of HT_.out (by kernel_rfl)) (fun _ _ _ h => h) (Or.inl ⟨by rfl, ?_⟩) ?_ ?_
        rotate_left
        · intro w'
          go_simp
          with_reducible rfl
        rotate_left
        · simp only [Act.put, List.setIfInBounds_toArray, List.set_cons_zero, List.set_cons_succ, i64_w, i32_w, u8_w_]
          rfl
        refine pure_ (i := 7) (N := some 21) (v := ?_) (a' := ?_) #[true, true, true, true, true, true, true, true, false, false, false] rfl rfl (any_of HT_.out (by kernel_rfl)) (fun _ _ _ h => h) (Or.inl ⟨by rfl, ?_⟩) ?_ ?_
        rotate_left
        · intro w'
          go_simp
          with_reducible rfl
        rotate_left
        · simp only [Act.put, List.setIfInBounds_toArray, List.set_cons_zero, List.set_cons_succ, i64_w, i32_w, u8_w_]
          rfl
        refine pure_ (i := 8) (N := some 22) (v := ?_) (a' := ?_) #[true, true, true, true, true, true, true, true, true, false, false] rfl rfl (any_of HT_.out (by kernel_rfl)) (fun _ _ _ h => h) (Or.inl ⟨by rfl, ?_⟩) ?_ ?_
        rotate_left
        · intro w'
          go_simp
          with_reducible rfl
        rotate_left
        · simp only [Act.put, List.setIfInBounds_toArray, List.set_cons_zero, List.set_cons_succ, i64_w, i32_w, u8_w_]
          rfl
        refine pure_ (i := 9) (N := some 7) (v := ?_) (a' := ?_) #[true, true, true, true, true, true, true, true, true, true, false] rfl rfl (any_of HT_.out (by kernel_rfl)) (fun _ _ _ h => h) (Or.inl ⟨by rfl, ?_⟩) ?_ ?_
        rotate_left
        · intro w'
          go_simp
          with_reducible rfl
        rotate_left
        · simp only [Act.put, List.setIfInBounds_toArray, List.set_cons_zero, List.set_cons_succ, i64_w, i32_w, u8_w_]
          rfl
        refine pure_ (i := 10) (N := some 8) (v := ?_) (a' := ?_) #[true, true, true, true, true, true, true, true, true, true, true] rfl rfl (any_of HT_.out (by kernel_rfl)) (fun _ _ _ h => h) (Or.inl ⟨by rfl, ?_⟩) ?_ ?_
        rotate_left
        · intro w'
          go_simp
          with_reducible rfl
        rotate_left
        · simp only [Act.put, List.setIfInBounds_toArray, List.set_cons_zero, List.set_cons_succ, i64_w, i32_w, u8_w_]
          rfl
        refine done_ (done_of HT_.out (by kernel_rfl)) ?_
        try go_wp2
        have n0_ := Aside0.mk (blk_drew BK183.out)
        have n1_ := Aside0.mk (blk_drew BK184.out)
        have n2_ := Aside0.mk (below_drew1 HB.out)
        clear BK183
        clear BK184
        clear HB
        have BK183 := n0_
        have BK184 := n1_
        have HB := n2_
        clear n0_ n1_ n2_
        refine start_ (n := 11) (S := fun w' => w'.cell? ⟨gb184, 0, none⟩ = some (.int .i16 a1_0) ∧ w'.cell? ⟨gb184, 1, none⟩ = some (.int .i8 a1_1) ∧ w'.heap[gb183]? = some (.cells #[.int .i8 a0_0, .int .i8 a0_1, .int .i8 a0_2, .int .i8 a0_3, .int .i8 a0_4, .int .i8 a0_5, .int .i8 a0_6, .int .i8 a0_7, .int .i8 a0_8, .int .i8 a0_9, .int .i8 a0_10, .int .i8 a0_11, .int .i8 a0_12, .int .i8 a0_13, .int .i8 a0_14, .int .i8 a0_15, .int .i8 a0_16, .int .i8 a0_17, .int .i8 a0_18, .int .i8 a0_19, .int .i8 a0_20, .int .i8 a0_21, .int .i8 a0_22, .int .i8 a0_23, .int .i8 a0_24, .int .i8 a0_25] 23 (0, 0))) (ds := []) #[false, false, false, false, false, false, false, false, false, false, false] (by kernel_rfl) rfl rfl ⟨(blk_cell BK184.out 0).trans rfl, (blk_cell BK184.out 1).trans rfl, BK183.out⟩ (fun hHeld => ?_); refine with_tabW laws_FnExactLeastTime.tab4 laws_FnExactLeastTime.bits4 (fun HT_ HW_ => ?_)
        generalize w20.drew = w21 at BK183 BK184 HB hHeld ⊢
        refine pure_ (i := 4) (N := some 28) (v := ?_) (a' := ?_) #[false, false, false, false, true, false, false, false, false, false, false] rfl rfl (any_of HT_.out (by kernel_rfl)) (fun _ _ _ h => h) (Or.inl ⟨by rfl, ?_⟩) ?_ ?_
        rotate_left
        · intro w'
          go_simp
          with_reducible rfl
        rotate_left
        · simp only [Act.put, List.setIfInBounds_toArray, List.set_cons_zero, List.set_cons_succ, i64_w, i32_w, u8_w_]
          rfl
        refine take_ (i := 0) (N := some 24) (v := ?_) (a' := ?_) #[true, false, false, false, true, false, false, false, false, false, false] rfl rfl (take_ofW HT_.out HW_.out (by kernel_rfl)) (fun _ _ _ h => h) (Or.inl ⟨by rfl, ?_⟩) hHeld ?_ ?_
        rotate_left
        · rintro w' ⟨s0, s1, s2⟩
          refine exec_load_partx_ 23 (.tmp 3) _ 0 [] [.int .i8 a0_0, .int .i8 a0_1, .int .i8 a0_2, .int .i8 a0_3, .int .i8 a0_4, .int .i8 a0_5, .int .i8 a0_6, .int .i8 a0_7, .int .i8 a0_8, .int .i8 a0_9, .int .i8 a0_10, .int .i8 a0_11, .int .i8 a0_12, .int .i8 a0_13, .int .i8 a0_14, .int .i8 a0_15, .int .i8 a0_16, .int .i8 a0_17, .int .i8 a0_18, .int .i8 a0_19, .int .i8 a0_20, .int .i8 a0_21, .int .i8 a0_22, .int .i8 a0_23, .int .i8 a0_24, .int .i8 a0_25] [] rfl s2 ?_ ?_ Tryd.underlying23 rfl (by exact (show (Tryd.prog.info? 23).map (·.size) = some 26 by kernel_rfl))
          · rfl
          · rfl
        rotate_left
        · simp only [Act.put, List.setIfInBounds_toArray, List.set_cons_zero, List.set_cons_succ, i64_w, i32_w, u8_w_]
          rfl
        refine take_ (i := 2) (N := some 26) (v := ?_) (a' := ?_) #[true, false, true, false, true, false, false, false, false, false, false] rfl rfl (take_ofW HT_.out HW_.out (by kernel_rfl)) (fun _ _ _ h => h) (Or.inl ⟨by rfl, ?_⟩) hHeld ?_ ?_
        rotate_left
        · rintro w' ⟨s0, s1, s2⟩
          go_simp
          with_reducible rfl
        rotate_left
        · simp only [Act.put, List.setIfInBounds_toArray, List.set_cons_zero, List.set_cons_succ, i64_w, i32_w, u8_w_]
          rfl
        refine one_ (i := 1) (N := some 25) #[true, true, true, false, true, false, false, false, false, false, false] rfl rfl (one_of HT_.out (by kernel_rfl)) (by decide) (fun K hK => ?_)
        refine goes_ Tryd.func8 (by kernel_rfl) rfl #[.agg #[.int .i8 a0_0, .int .i8 a0_1, .int .i8 a0_2, .int .i8 a0_3, .int .i8 a0_4, .int .i8 a0_5, .int .i8 a0_6, .int .i8 a0_7, .int .i8 a0_8, .int .i8 a0_9, .int .i8 a0_10, .int .i8 a0_11, .int .i8 a0_12, .int .i8 a0_13, .int .i8 a0_14, .int .i8 a0_15, .int .i8 a0_16, .int .i8 a0_17, .int .i8 a0_18, .int .i8 a0_19, .int .i8 a0_20, .int .i8 a0_21, .int .i8 a0_22, .int .i8 a0_23, .int .i8 a0_24, .int .i8 a0_25]] (by rfl) rfl rfl (by (try simp only [List.map_toArray, List.map_cons, List.map_nil]); first | done | rfl | (simp only [List.length_drop, List.length_take]; rfl)) ?_
        with_reducible refine (laws_toStrokes.calls a0_0 a0_1 a0_2 a0_3 a0_4 a0_5 a0_6 a0_7 a0_8 a0_9 a0_10 a0_11 a0_12 a0_13 a0_14 a0_15 a0_16 a0_17 a0_18 a0_19 a0_20 a0_21 a0_22 a0_23 a0_24 a0_25 t215 t216 t217 t218 t219 t220 t221 t222 t223 t224 t225 t226 t227 t228 t229 t230 t231 t232 t233 t234 t235 t236 t237 t238 t239 t240 _ A10.out).mono ?_
        rintro e w22 ⟨rfl, hb⟩
        refine ⟨_, rfl, ?_⟩
        have n0_ := Aside0.mk (blk_below (g := gb183) (by (with_reducible repeat (first | refine blk_drewN ?_ _ | refine blk_drew ?_ | refine blk_alloc ?_ _)); exact BK183.out) hb)
        have n1_ := Aside0.mk (blk_below (g := gb184) (by (with_reducible repeat (first | refine blk_drewN ?_ _ | refine blk_drew ?_ | refine blk_alloc ?_ _)); exact BK184.out) hb)
        have n2_ := Aside0.mk (below_step (by repeat (first | (with_reducible first | exact HB.out | apply below_alloc | apply pw_below_drewN | apply below_drew1 | refine below_set ?_ GE183.out | refine below_set ?_ GE184.out) | exact HB.out)) hb)
        clear BK183
        clear BK184
        clear HB
        have BK183 := n0_
        have BK184 := n1_
        have HB := n2_
        clear n0_ n1_ n2_
        (try clear hb)
        (try clear hb2)
        (try clear hk)
        (try clear hi)
        refine hK.out _ _ ⟨(blk_cell BK184.out 0).trans rfl, (blk_cell BK184.out 1).trans rfl, BK183.out⟩ (fun hHeld => ?_)
        clear hK K
        refine norm_ (a' := ?_) ?_ ?_
        rotate_left
        · show Act.put _ (some 25) _ = _
          simp only [Act.put, List.setIfInBounds_toArray, List.set_cons_zero, List.set_cons_succ, i64_w, i32_w, u8_w_]
          rfl
        refine one_ (i := 3) (N := some 27) #[true, true, true, true, true, false, false, false, false, false, false] rfl rfl (one_of HT_.out (by kernel_rfl)) (by decide) (fun K hK => ?_)
        refine goes_ Tryd.func9 (by kernel_rfl) rfl #[.agg #[.int .i16 a1_0, .int .i8 a1_1]] (by rfl) rfl rfl (by (try simp only [List.map_toArray, List.map_cons, List.map_nil]); first | done | rfl | (simp only [List.length_drop, List.length_take]; rfl)) ?_
        with_reducible refine (laws_toChisel.calls a1_0 a1_1 t241 t242 _ A11.out).mono ?_
        rintro e w23 ⟨rfl, hb⟩
        refine ⟨_, rfl, ?_⟩
        have n0_ := Aside0.mk (blk_below (g := gb183) (by (with_reducible repeat (first | refine blk_drewN ?_ _ | refine blk_drew ?_ | refine blk_alloc ?_ _)); exact BK183.out) hb)
        have n1_ := Aside0.mk (blk_below (g := gb184) (by (with_reducible repeat (first | refine blk_drewN ?_ _ | refine blk_drew ?_ | refine blk_alloc ?_ _)); exact BK184.out) hb)
        have n2_ := Aside0.mk (below_step (by repeat (first | (with_reducible first | exact HB.out | apply below_alloc | apply pw_below_drewN | apply below_drew1 | refine below_set ?_ GE183.out | refine below_set ?_ GE184.out) | exact HB.out)) hb)
        clear BK183
        clear BK184
        clear HB
        have BK183 := n0_
        have BK184 := n1_
        have HB := n2_
        clear n0_ n1_ n2_
        (try clear hb)
        (try clear hb2)
        (try clear hk)
        (try clear hi)
        refine hK.out _ _ ⟨(blk_cell BK184.out 0).trans rfl, (blk_cell BK184.out 1).trans rfl, BK183.out⟩ (fun hHeld => ?_)
        clear hK K
        refine norm_ (a' := ?_) ?_ ?_
        rotate_left
        · show Act.put _ (some 27) _ = _
          simp only [Act.put, List.setIfInBounds_toArray, List.set_cons_zero, List.set_cons_succ, i64_w, i32_w, u8_w_]
          rfl
        refine one_ (i := 5) (N := some 29) #[true, true, true, true, true, true, false, false, false, false, false] rfl rfl (one_of HT_.out (by kernel_rfl)) (by decide) (fun K hK => ?_)
        refine goes_ Tryd.func10 (by kernel_rfl) rfl #[.agg #[.int .i8 t215, .int .i8 t216, .int .i8 t217, .int .i8 t218, .int .i8 t219, .int .i8 t220, .int .i8 t221, .int .i8 t222, .int .i8 t223, .int .i8 t224, .int .i8 t225, .int .i8 t226, .int .i8 t227, .int .i8 t228, .int .i8 t229, .int .i8 t230, .int .i8 t231, .int .i8 t232, .int .i8 t233, .int .i8 t234, .int .i8 t235, .int .i8 t236, .int .i8 t237, .int .i8 t238, .int .i8 t239, .int .i8 t240], .agg #[.int .i16 t241, .int .i8 t242], .string a2] (by rfl) rfl rfl (by (try simp only [List.map_toArray, List.map_cons, List.map_nil]); first | done | rfl | (simp only [List.length_drop, List.length_take]; rfl)) ?_
        with_reducible refine (impl_LeastTime.calls k t215 t216 t217 t218 t219 t220 t221 t222 t223 t224 t225 t226 t227 t228 t229 t230 t231 t232 t233 t234 t235 t236 t237 t238 t239 t240 t241 t242 a2 t243 t244 _ ?sideG A12.out).mono ?_
        case sideG => first | exact HG.out.below (by repeat (first | (with_reducible first | exact HB.out | apply below_alloc | apply pw_below_drewN | apply below_drew1) | exact HB.out)) | exact (HG.out.below (by repeat (first | (with_reducible first | exact HB.out | apply below_alloc | apply pw_below_drewN | apply below_drew1) | exact HB.out))).toM
        rintro e w24 ⟨rfl, hb⟩
        refine ⟨_, rfl, ?_⟩
        have n0_ := Aside0.mk (blk_below (g := gb183) (by (with_reducible repeat (first | refine blk_drewN ?_ _ | refine blk_drew ?_ | refine blk_alloc ?_ _)); exact BK183.out) hb)
        have n1_ := Aside0.mk (blk_below (g := gb184) (by (with_reducible repeat (first | refine blk_drewN ?_ _ | refine blk_drew ?_ | refine blk_alloc ?_ _)); exact BK184.out) hb)
        have n2_ := Aside0.mk (below_step (by repeat (first | (with_reducible first | exact HB.out | apply below_alloc | apply pw_below_drewN | apply below_drew1 | refine below_set ?_ GE183.out | refine below_set ?_ GE184.out) | exact HB.out)) hb)
        clear BK183
        clear BK184
        clear HB
        have BK183 := n0_
        have BK184 := n1_
        have HB := n2_
        clear n0_ n1_ n2_
        (try clear hb)
        (try clear hb2)
        (try clear hk)
        (try clear hi)
        refine hK.out _ _ ⟨(blk_cell BK184.out 0).trans rfl, (blk_cell BK184.out 1).trans rfl, BK183.out⟩ (fun hHeld => ?_)
        clear hK K
        refine norm_ (a' := ?_) ?_ ?_
        rotate_left
        · show Act.put _ (some 29) _ = _
          simp only [Act.put, List.setIfInBounds_toArray, List.set_cons_zero, List.set_cons_succ, i64_w, i32_w, u8_w_]
          rfl
        refine pure_ (i := 6) (N := some 23) (v := ?_) (a' := ?_) #[true, true, true, true, true, true, true, false, false, false, false] rfl rfl (any_of HT_.out (by kernel_rfl)) (fun _ _ _ h => h) (Or.inl ⟨by rfl, ?_⟩) ?_ ?_
        rotate_left
        · intro w'
          go_simp
          with_reducible rfl
        rotate_left
        · simp only [Act.put, List.setIfInBounds_toArray, List.set_cons_zero, List.set_cons_succ, i64_w, i32_w, u8_w_]
          rfl
        refine pure_ (i := 7) (N := some 30) (v := ?_) (a' := ?_) #[true, true, true, true, true, true, true, true, false, false, false] rfl rfl (any_of HT_.out (by kernel_rfl)) (fun _ _ _ h => h) (Or.inl ⟨by rfl, ?_⟩) ?_ ?_
        rotate_left
        · intro w'
          go_simp
          with_reducible rfl
        rotate_left
        · simp only [Act.put, List.setIfInBounds_toArray, List.set_cons_zero, List.set_cons_succ, i64_w, i32_w, u8_w_]
          rfl
        refine pure_ (i := 8) (N := some 31) (v := ?_) (a' := ?_) #[true, true, true, true, true, true, true, true, true, false, false] rfl rfl (any_of HT_.out (by kernel_rfl)) (fun _ _ _ h => h) (Or.inl ⟨by rfl, ?_⟩) ?_ ?_
        rotate_left
        · intro w'
          go_simp
          with_reducible rfl
        rotate_left
        · simp only [Act.put, List.setIfInBounds_toArray, List.set_cons_zero, List.set_cons_succ, i64_w, i32_w, u8_w_]
          rfl
        refine pure_ (i := 9) (N := some 9) (v := ?_) (a' := ?_) #[true, true, true, true, true, true, true, true, true, true, false] rfl rfl (any_of HT_.out (by kernel_rfl)) (fun _ _ _ h => h) (Or.inl ⟨by rfl, ?_⟩) ?_ ?_
        rotate_left
        · intro w'
          go_simp
          with_reducible rfl
        rotate_left
        · simp only [Act.put, List.setIfInBounds_toArray, List.set_cons_zero, List.set_cons_succ, i64_w, i32_w, u8_w_]
          rfl
        refine pure_ (i := 10) (N := some 10) (v := ?_) (a' := ?_) #[true, true, true, true, true, true, true, true, true, true, true] rfl rfl (any_of HT_.out (by kernel_rfl)) (fun _ _ _ h => h) (Or.inl ⟨by rfl, ?_⟩) ?_ ?_
        rotate_left
        · intro w'
          go_simp
          with_reducible rfl
        rotate_left
        · simp only [Act.put, List.setIfInBounds_toArray, List.set_cons_zero, List.set_cons_succ, i64_w, i32_w, u8_w_]
          rfl
        refine done_ (done_of HT_.out (by kernel_rfl)) ?_
        try go_wp2
        go_ret
        exact ⟨by first | rfl | (simp [errW_none, errW_some, i64_w]; done) | (simp [errW_none, errW_some] <;> rfl) | (simp [*, errW_none, errW_some] <;> rfl), by repeat (first | (with_reducible first | exact HB.out | apply below_alloc | apply pw_below_drewN | apply below_drew1 | refine below_set ?_ GE183.out | refine below_set ?_ GE184.out) | exact HB.out)⟩
      · rw [if_neg c14] at H
        have c14b0 : (t244 == t214) = false := beq_eq_false_iff_ne.mpr c14
        have c14b1 : (t244 != t214) = true := bne_iff_ne.mpr c14
        obtain rfl := Option.some.inj H
        go_enter Tryd.func3, Tryd.ntmps3
        try go_wp2_with (first | ((with_reducible refine gate_dst (N := 3) rfl ?_); refine box_event ?hg (N := 3) ?hd (cs := #[.int .i8 a0_0, .int .i8 a0_1, .int .i8 a0_2, .int .i8 a0_3, .int .i8 a0_4, .int .i8 a0_5, .int .i8 a0_6, .int .i8 a0_7, .int .i8 a0_8, .int .i8 a0_9, .int .i8 a0_10, .int .i8 a0_11, .int .i8 a0_12, .int .i8 a0_13, .int .i8 a0_14, .int .i8 a0_15, .int .i8 a0_16, .int .i8 a0_17, .int .i8 a0_18, .int .i8 a0_19, .int .i8 a0_20, .int .i8 a0_21, .int .i8 a0_22, .int .i8 a0_23, .int .i8 a0_24, .int .i8 a0_25]) (t := 23) ?hr ?_; (case hd => rfl); (case hg => rfl); (case hr => first | (go_simp; done) | (go_simp; rfl)); intro gb183 hg w25 hbox hb; have n0_ := Aside0.mk (below_step (by repeat (first | (with_reducible first | exact HB.out | apply below_alloc | apply pw_below_drewN | apply below_drew1) | exact HB.out)) hb); have n1_ := Aside0.mk (hbox); have n2_ := Aside0.mk ((by rw [hg]; exact (below_size (by repeat (first | (with_reducible first | exact HB.out | apply below_alloc | apply pw_below_drewN | apply below_drew1) | exact HB.out))) : w.heap.size ≤ gb183)); have n3_ := Aside0.mk (n2_.out); clear HB; have HB := n0_; have BK183 := n1_; have GW183 := n2_; have GE183 := n3_; clear n0_ n1_ n2_ n3_; clear hb hbox hg) | ((with_reducible refine gate_dst (N := 4) rfl ?_); refine box_event ?hg (N := 4) ?hd (cs := #[.int .i16 a1_0, .int .i8 a1_1]) (t := 26) ?hr ?_; (case hd => rfl); (case hg => rfl); (case hr => first | (go_simp; done) | (go_simp; rfl)); intro gb184 hg w26 hbox hb; have n0_ := Aside0.mk (blk_below (g := gb183) (by (with_reducible repeat (first | refine blk_drewN ?_ _ | refine blk_drew ?_ | refine blk_alloc ?_ _)); exact BK183.out) hb); have n1_ := Aside0.mk (below_step (by repeat (first | (with_reducible first | exact HB.out | apply below_alloc | apply pw_below_drewN | apply below_drew1 | refine below_set ?_ GE183.out) | exact HB.out)) hb); have n2_ := Aside0.mk (hbox); have n3_ := Aside0.mk ((by rw [hg]; exact (below_size (by repeat (first | (with_reducible first | exact HB.out | apply below_alloc | apply pw_below_drewN | apply below_drew1 | refine below_set ?_ GE183.out) | exact HB.out))) : w.heap.size ≤ gb184)); have n4_ := Aside0.mk (n3_.out); have n5_ := Aside0.mk ((by rw [hg]; exact Nat.ne_of_lt (blk_lt (g := gb183) (by (with_reducible repeat (first | refine blk_drewN ?_ _ | refine blk_drew ?_ | refine blk_alloc ?_ _)); exact BK183.out)) : gb183 ≠ gb184)); have n6_ := Aside0.mk ((Ne.symm n5_.out)); clear BK183; clear HB; have BK183 := n0_; have HB := n1_; have BK184 := n2_; have GW184 := n3_; have GE184 := n4_; have NB183_184 := n5_; have NB184_183 := n6_; clear n0_ n1_ n2_ n3_ n4_ n5_ n6_; clear hb hbox hg))
        have n0_ := Aside0.mk (blk_drew BK183.out)
        have n1_ := Aside0.mk (blk_drew BK184.out)
        have n2_ := Aside0.mk (below_drew1 HB.out)
        clear BK183
        clear BK184
        clear HB
        have BK183 := n0_
        have BK184 := n1_
        have HB := n2_
        clear n0_ n1_ n2_
        refine start_ (n := 11) (S := fun w' => w'.cell? ⟨gb184, 0, none⟩ = some (.int .i16 a1_0) ∧ w'.cell? ⟨gb184, 1, none⟩ = some (.int .i8 a1_1) ∧ w'.heap[gb183]? = some (.cells #[.int .i8 a0_0, .int .i8 a0_1, .int .i8 a0_2, .int .i8 a0_3, .int .i8 a0_4, .int .i8 a0_5, .int .i8 a0_6, .int .i8 a0_7, .int .i8 a0_8, .int .i8 a0_9, .int .i8 a0_10, .int .i8 a0_11, .int .i8 a0_12, .int .i8 a0_13, .int .i8 a0_14, .int .i8 a0_15, .int .i8 a0_16, .int .i8 a0_17, .int .i8 a0_18, .int .i8 a0_19, .int .i8 a0_20, .int .i8 a0_21, .int .i8 a0_22, .int .i8 a0_23, .int .i8 a0_24, .int .i8 a0_25] 23 (0, 0))) (ds := []) #[false, false, false, false, false, false, false, false, false, false, false] (by kernel_rfl) rfl rfl ⟨(blk_cell BK184.out 0).trans rfl, (blk_cell BK184.out 1).trans rfl, BK183.out⟩ (fun hHeld => ?_); refine with_tabW laws_FnExactLeastTime.tab3 laws_FnExactLeastTime.bits3 (fun HT_ HW_ => ?_)
        generalize w26.drew = w27 at BK183 BK184 HB hHeld ⊢
        refine pure_ (i := 4) (N := some 19) (v := ?_) (a' := ?_) #[false, false, false, false, true, false, false, false, false, false, false] rfl rfl (any_of HT_.out (by kernel_rfl)) (fun _ _ _ h => h) (Or.inl ⟨by rfl, ?_⟩) ?_ ?_
        rotate_left
        · intro w'
          go_simp
          with_reducible rfl
        rotate_left
        · simp only [Act.put, List.setIfInBounds_toArray, List.set_cons_zero, List.set_cons_succ, i64_w, i32_w, u8_w_]
          rfl
        refine take_ (i := 0) (N := some 15) (v := ?_) (a' := ?_) #[true, false, false, false, true, false, false, false, false, false, false] rfl rfl (take_ofW HT_.out HW_.out (by kernel_rfl)) (fun _ _ _ h => h) (Or.inl ⟨by rfl, ?_⟩) hHeld ?_ ?_
        rotate_left
        · rintro w' ⟨s0, s1, s2⟩
          refine exec_load_partx_ 23 (.tmp 3) _ 0 [] [.int .i8 a0_0, .int .i8 a0_1, .int .i8 a0_2, .int .i8 a0_3, .int .i8 a0_4, .int .i8 a0_5, .int .i8 a0_6, .int .i8 a0_7, .int .i8 a0_8, .int .i8 a0_9, .int .i8 a0_10, .int .i8 a0_11, .int .i8 a0_12, .int .i8 a0_13, .int .i8 a0_14, .int .i8 a0_15, .int .i8 a0_16, .int .i8 a0_17, .int .i8 a0_18, .int .i8 a0_19, .int .i8 a0_20, .int .i8 a0_21, .int .i8 a0_22, .int .i8 a0_23, .int .i8 a0_24, .int .i8 a0_25] [] rfl s2 ?_ ?_ Tryd.underlying23 rfl (by exact (show (Tryd.prog.info? 23).map (·.size) = some 26 by kernel_rfl))
          · rfl
          · rfl
        rotate_left
        · simp only [Act.put, List.setIfInBounds_toArray, List.set_cons_zero, List.set_cons_succ, i64_w, i32_w, u8_w_]
          rfl
        refine take_ (i := 2) (N := some 17) (v := ?_) (a' := ?_) #[true, false, true, false, true, false, false, false, false, false, false] rfl rfl (take_ofW HT_.out HW_.out (by kernel_rfl)) (fun _ _ _ h => h) (Or.inl ⟨by rfl, ?_⟩) hHeld ?_ ?_
        rotate_left
        · rintro w' ⟨s0, s1, s2⟩
          go_simp
          with_reducible rfl
        rotate_left
        · simp only [Act.put, List.setIfInBounds_toArray, List.set_cons_zero, List.set_cons_succ, i64_w, i32_w, u8_w_]
          rfl
        refine one_ (i := 1) (N := some 16) #[true, true, true, false, true, false, false, false, false, false, false] rfl rfl (one_of HT_.out (by kernel_rfl)) (by decide) (fun K hK => ?_)
        refine goes_ Tryd.func8 (by kernel_rfl) rfl #[.agg #[.int .i8 a0_0, .int .i8 a0_1, .int .i8 a0_2, .int .i8 a0_3, .int .i8 a0_4, .int .i8 a0_5, .int .i8 a0_6, .int .i8 a0_7, .int .i8 a0_8, .int .i8 a0_9, .int .i8 a0_10, .int .i8 a0_11, .int .i8 a0_12, .int .i8 a0_13, .int .i8 a0_14, .int .i8 a0_15, .int .i8 a0_16, .int .i8 a0_17, .int .i8 a0_18, .int .i8 a0_19, .int .i8 a0_20, .int .i8 a0_21, .int .i8 a0_22, .int .i8 a0_23, .int .i8 a0_24, .int .i8 a0_25]] (by rfl) rfl rfl (by (try simp only [List.map_toArray, List.map_cons, List.map_nil]); first | done | rfl | (simp only [List.length_drop, List.length_take]; rfl)) ?_
        with_reducible refine (laws_toStrokes.calls a0_0 a0_1 a0_2 a0_3 a0_4 a0_5 a0_6 a0_7 a0_8 a0_9 a0_10 a0_11 a0_12 a0_13 a0_14 a0_15 a0_16 a0_17 a0_18 a0_19 a0_20 a0_21 a0_22 a0_23 a0_24 a0_25 t185 t186 t187 t188 t189 t190 t191 t192 t193 t194 t195 t196 t197 t198 t199 t200 t201 t202 t203 t204 t205 t206 t207 t208 t209 t210 _ A7.out).mono ?_
        rintro e w28 ⟨rfl, hb⟩
        refine ⟨_, rfl, ?_⟩
        have n0_ := Aside0.mk (blk_below (g := gb183) (by (with_reducible repeat (first | refine blk_drewN ?_ _ | refine blk_drew ?_ | refine blk_alloc ?_ _)); exact BK183.out) hb)
        have n1_ := Aside0.mk (blk_below (g := gb184) (by (with_reducible repeat (first | refine blk_drewN ?_ _ | refine blk_drew ?_ | refine blk_alloc ?_ _)); exact BK184.out) hb)
        have n2_ := Aside0.mk (below_step (by repeat (first | (with_reducible first | exact HB.out | apply below_alloc | apply pw_below_drewN | apply below_drew1 | refine below_set ?_ GE183.out | refine below_set ?_ GE184.out) | exact HB.out)) hb)
        clear BK183
        clear BK184
        clear HB
        have BK183 := n0_
        have BK184 := n1_
        have HB := n2_
        clear n0_ n1_ n2_
        (try clear hb)
        (try clear hb2)
        (try clear hk)
        (try clear hi)
        refine hK.out _ _ ⟨(blk_cell BK184.out 0).trans rfl, (blk_cell BK184.out 1).trans rfl, BK183.out⟩ (fun hHeld => ?_)
        clear hK K
        refine norm_ (a' := ?_) ?_ ?_
        rotate_left
        · show Act.put _ (some 16) _ = _
          simp only [Act.put, List.setIfInBounds_toArray, List.set_cons_zero, List.set_cons_succ, i64_w, i32_w, u8_w_]
          rfl
        refine one_ (i := 3) (N := some 18) #[true, true, true, true, true, false, false, false, false, false, false] rfl rfl (one_of HT_.out (by kernel_rfl)) (by decide) (fun K hK => ?_)
        refine goes_ Tryd.func9 (by kernel_rfl) rfl #[.agg #[.int .i16 a1_0, .int .i8 a1_1]] (by rfl) rfl rfl (by (try simp only [List.map_toArray, List.map_cons, List.map_nil]); first | done | rfl | (simp only [List.length_drop, List.length_take]; rfl)) ?_
        with_reducible refine (laws_toChisel.calls a1_0 a1_1 t211 t212 _ A8.out).mono ?_
        rintro e w29 ⟨rfl, hb⟩
        refine ⟨_, rfl, ?_⟩
        have n0_ := Aside0.mk (blk_below (g := gb183) (by (with_reducible repeat (first | refine blk_drewN ?_ _ | refine blk_drew ?_ | refine blk_alloc ?_ _)); exact BK183.out) hb)
        have n1_ := Aside0.mk (blk_below (g := gb184) (by (with_reducible repeat (first | refine blk_drewN ?_ _ | refine blk_drew ?_ | refine blk_alloc ?_ _)); exact BK184.out) hb)
        have n2_ := Aside0.mk (below_step (by repeat (first | (with_reducible first | exact HB.out | apply below_alloc | apply pw_below_drewN | apply below_drew1 | refine below_set ?_ GE183.out | refine below_set ?_ GE184.out) | exact HB.out)) hb)
        clear BK183
        clear BK184
        clear HB
        have BK183 := n0_
        have BK184 := n1_
        have HB := n2_
        clear n0_ n1_ n2_
        (try clear hb)
        (try clear hb2)
        (try clear hk)
        (try clear hi)
        refine hK.out _ _ ⟨(blk_cell BK184.out 0).trans rfl, (blk_cell BK184.out 1).trans rfl, BK183.out⟩ (fun hHeld => ?_)
        clear hK K
        refine norm_ (a' := ?_) ?_ ?_
        rotate_left
        · show Act.put _ (some 18) _ = _
          simp only [Act.put, List.setIfInBounds_toArray, List.set_cons_zero, List.set_cons_succ, i64_w, i32_w, u8_w_]
          rfl
        refine one_ (i := 5) (N := some 20) #[true, true, true, true, true, true, false, false, false, false, false] rfl rfl (one_of HT_.out (by kernel_rfl)) (by decide) (fun K hK => ?_)
        refine goes_ Tryd.func7 (by kernel_rfl) rfl #[.agg #[.int .i8 t185, .int .i8 t186, .int .i8 t187, .int .i8 t188, .int .i8 t189, .int .i8 t190, .int .i8 t191, .int .i8 t192, .int .i8 t193, .int .i8 t194, .int .i8 t195, .int .i8 t196, .int .i8 t197, .int .i8 t198, .int .i8 t199, .int .i8 t200, .int .i8 t201, .int .i8 t202, .int .i8 t203, .int .i8 t204, .int .i8 t205, .int .i8 t206, .int .i8 t207, .int .i8 t208, .int .i8 t209, .int .i8 t210], .agg #[.int .i16 t211, .int .i8 t212], .string a2] (by rfl) rfl rfl (by (try simp only [List.map_toArray, List.map_cons, List.map_nil]); first | done | rfl | (simp only [List.length_drop, List.length_take]; rfl)) ?_
        with_reducible refine (spec_LeastTime.calls t185 t186 t187 t188 t189 t190 t191 t192 t193 t194 t195 t196 t197 t198 t199 t200 t201 t202 t203 t204 t205 t206 t207 t208 t209 t210 t211 t212 a2 t213 t214 _ A9.out).mono ?_
        rintro e w30 ⟨rfl, hb⟩
        refine ⟨_, rfl, ?_⟩
        have n0_ := Aside0.mk (blk_below (g := gb183) (by (with_reducible repeat (first | refine blk_drewN ?_ _ | refine blk_drew ?_ | refine blk_alloc ?_ _)); exact BK183.out) hb)
        have n1_ := Aside0.mk (blk_below (g := gb184) (by (with_reducible repeat (first | refine blk_drewN ?_ _ | refine blk_drew ?_ | refine blk_alloc ?_ _)); exact BK184.out) hb)
        have n2_ := Aside0.mk (below_step (by repeat (first | (with_reducible first | exact HB.out | apply below_alloc | apply pw_below_drewN | apply below_drew1 | refine below_set ?_ GE183.out | refine below_set ?_ GE184.out) | exact HB.out)) hb)
        clear BK183
        clear BK184
        clear HB
        have BK183 := n0_
        have BK184 := n1_
        have HB := n2_
        clear n0_ n1_ n2_
        (try clear hb)
        (try clear hb2)
        (try clear hk)
        (try clear hi)
        refine hK.out _ _ ⟨(blk_cell BK184.out 0).trans rfl, (blk_cell BK184.out 1).trans rfl, BK183.out⟩ (fun hHeld => ?_)
        clear hK K
        refine norm_ (a' := ?_) ?_ ?_
        rotate_left
        · show Act.put _ (some 20) _ = _
          simp only [Act.put, List.setIfInBounds_toArray, List.set_cons_zero, List.set_cons_succ, i64_w, i32_w, u8_w_]
          rfl
        refine pure_ (i := 6) (N := some 14) (v := ?_) (a' := ?_) #[true, true, true, true, true, true, true, false, false, false, false] rfl rfl (any_of HT_.out (by kernel_rfl)) (fun _ _ _ h => h) (Or.inl ⟨by rfl, ?_⟩) ?_ ?_
        rotate_left
        · intro w'
          go_simp
          with_reducible rfl
        rotate_left
        · simp only [Act.put, List.setIfInBounds_toArray, List.set_cons_zero, List.set_cons_succ, i64_w, i32_w, u8_w_]
          rfl
        refine pure_ (i := 7) (N := some 21) (v := ?_) (a' := ?_) #[true, true, true, true, true, true, true, true, false, false, false] rfl rfl (any_of HT_.out (by kernel_rfl)) (fun _ _ _ h => h) (Or.inl ⟨by rfl, ?_⟩) ?_ ?_
        rotate_left
        · intro w'
          go_simp
          with_reducible rfl
        rotate_left
        · simp only [Act.put, List.setIfInBounds_toArray, List.set_cons_zero, List.set_cons_succ, i64_w, i32_w, u8_w_]
          rfl
        refine pure_ (i := 8) (N := some 22) (v := ?_) (a' := ?_) #[true, true, true, true, true, true, true, true, true, false, false] rfl rfl (any_of HT_.out (by kernel_rfl)) (fun _ _ _ h => h) (Or.inl ⟨by rfl, ?_⟩) ?_ ?_
        rotate_left
        · intro w'
          go_simp
          with_reducible rfl
        rotate_left
        · simp only [Act.put, List.setIfInBounds_toArray, List.set_cons_zero, List.set_cons_succ, i64_w, i32_w, u8_w_]
          rfl
        refine pure_ (i := 9) (N := some 7) (v := ?_) (a' := ?_) #[true, true, true, true, true, true, true, true, true, true, false] rfl rfl (any_of HT_.out (by kernel_rfl)) (fun _ _ _ h => h) (Or.inl ⟨by rfl, ?_⟩) ?_ ?_
        rotate_left
        · intro w'
          go_simp
          with_reducible rfl
        rotate_left
        · simp only [Act.put, List.setIfInBounds_toArray, List.set_cons_zero, List.set_cons_succ, i64_w, i32_w, u8_w_]
          rfl
        refine pure_ (i := 10) (N := some 8) (v := ?_) (a' := ?_) #[true, true, true, true, true, true, true, true, true, true, true] rfl rfl (any_of HT_.out (by kernel_rfl)) (fun _ _ _ h => h) (Or.inl ⟨by rfl, ?_⟩) ?_ ?_
        rotate_left
        · intro w'
          go_simp
          with_reducible rfl
        rotate_left
        · simp only [Act.put, List.setIfInBounds_toArray, List.set_cons_zero, List.set_cons_succ, i64_w, i32_w, u8_w_]
          rfl
        refine done_ (done_of HT_.out (by kernel_rfl)) ?_
        try go_wp2
        have n0_ := Aside0.mk (blk_drew BK183.out)
        have n1_ := Aside0.mk (blk_drew BK184.out)
        have n2_ := Aside0.mk (below_drew1 HB.out)
        clear BK183
        clear BK184
        clear HB
        have BK183 := n0_
        have BK184 := n1_
        have HB := n2_
        clear n0_ n1_ n2_
        refine start_ (n := 11) (S := fun w' => w'.cell? ⟨gb184, 0, none⟩ = some (.int .i16 a1_0) ∧ w'.cell? ⟨gb184, 1, none⟩ = some (.int .i8 a1_1) ∧ w'.heap[gb183]? = some (.cells #[.int .i8 a0_0, .int .i8 a0_1, .int .i8 a0_2, .int .i8 a0_3, .int .i8 a0_4, .int .i8 a0_5, .int .i8 a0_6, .int .i8 a0_7, .int .i8 a0_8, .int .i8 a0_9, .int .i8 a0_10, .int .i8 a0_11, .int .i8 a0_12, .int .i8 a0_13, .int .i8 a0_14, .int .i8 a0_15, .int .i8 a0_16, .int .i8 a0_17, .int .i8 a0_18, .int .i8 a0_19, .int .i8 a0_20, .int .i8 a0_21, .int .i8 a0_22, .int .i8 a0_23, .int .i8 a0_24, .int .i8 a0_25] 23 (0, 0))) (ds := []) #[false, false, false, false, false, false, false, false, false, false, false] (by kernel_rfl) rfl rfl ⟨(blk_cell BK184.out 0).trans rfl, (blk_cell BK184.out 1).trans rfl, BK183.out⟩ (fun hHeld => ?_); refine with_tabW laws_FnExactLeastTime.tab4 laws_FnExactLeastTime.bits4 (fun HT_ HW_ => ?_)
        generalize w30.drew = w31 at BK183 BK184 HB hHeld ⊢
        refine pure_ (i := 4) (N := some 28) (v := ?_) (a' := ?_) #[false, false, false, false, true, false, false, false, false, false, false] rfl rfl (any_of HT_.out (by kernel_rfl)) (fun _ _ _ h => h) (Or.inl ⟨by rfl, ?_⟩) ?_ ?_
        rotate_left
        · intro w'
          go_simp
          with_reducible rfl
        rotate_left
        · simp only [Act.put, List.setIfInBounds_toArray, List.set_cons_zero, List.set_cons_succ, i64_w, i32_w, u8_w_]
          rfl
        refine take_ (i := 0) (N := some 24) (v := ?_) (a' := ?_) #[true, false, false, false, true, false, false, false, false, false, false] rfl rfl (take_ofW HT_.out HW_.out (by kernel_rfl)) (fun _ _ _ h => h) (Or.inl ⟨by rfl, ?_⟩) hHeld ?_ ?_
        rotate_left
        · rintro w' ⟨s0, s1, s2⟩
          refine exec_load_partx_ 23 (.tmp 3) _ 0 [] [.int .i8 a0_0, .int .i8 a0_1, .int .i8 a0_2, .int .i8 a0_3, .int .i8 a0_4, .int .i8 a0_5, .int .i8 a0_6, .int .i8 a0_7, .int .i8 a0_8, .int .i8 a0_9, .int .i8 a0_10, .int .i8 a0_11, .int .i8 a0_12, .int .i8 a0_13, .int .i8 a0_14, .int .i8 a0_15, .int .i8 a0_16, .int .i8 a0_17, .int .i8 a0_18, .int .i8 a0_19, .int .i8 a0_20, .int .i8 a0_21, .int .i8 a0_22, .int .i8 a0_23, .int .i8 a0_24, .int .i8 a0_25] [] rfl s2 ?_ ?_ Tryd.underlying23 rfl (by exact (show (Tryd.prog.info? 23).map (·.size) = some 26 by kernel_rfl))
          · rfl
          · rfl
        rotate_left
        · simp only [Act.put, List.setIfInBounds_toArray, List.set_cons_zero, List.set_cons_succ, i64_w, i32_w, u8_w_]
          rfl
        refine take_ (i := 2) (N := some 26) (v := ?_) (a' := ?_) #[true, false, true, false, true, false, false, false, false, false, false] rfl rfl (take_ofW HT_.out HW_.out (by kernel_rfl)) (fun _ _ _ h => h) (Or.inl ⟨by rfl, ?_⟩) hHeld ?_ ?_
        rotate_left
        · rintro w' ⟨s0, s1, s2⟩
          go_simp
          with_reducible rfl
        rotate_left
        · simp only [Act.put, List.setIfInBounds_toArray, List.set_cons_zero, List.set_cons_succ, i64_w, i32_w, u8_w_]
          rfl
        refine one_ (i := 1) (N := some 25) #[true, true, true, false, true, false, false, false, false, false, false] rfl rfl (one_of HT_.out (by kernel_rfl)) (by decide) (fun K hK => ?_)
        refine goes_ Tryd.func8 (by kernel_rfl) rfl #[.agg #[.int .i8 a0_0, .int .i8 a0_1, .int .i8 a0_2, .int .i8 a0_3, .int .i8 a0_4, .int .i8 a0_5, .int .i8 a0_6, .int .i8 a0_7, .int .i8 a0_8, .int .i8 a0_9, .int .i8 a0_10, .int .i8 a0_11, .int .i8 a0_12, .int .i8 a0_13, .int .i8 a0_14, .int .i8 a0_15, .int .i8 a0_16, .int .i8 a0_17, .int .i8 a0_18, .int .i8 a0_19, .int .i8 a0_20, .int .i8 a0_21, .int .i8 a0_22, .int .i8 a0_23, .int .i8 a0_24, .int .i8 a0_25]] (by rfl) rfl rfl (by (try simp only [List.map_toArray, List.map_cons, List.map_nil]); first | done | rfl | (simp only [List.length_drop, List.length_take]; rfl)) ?_
        with_reducible refine (laws_toStrokes.calls a0_0 a0_1 a0_2 a0_3 a0_4 a0_5 a0_6 a0_7 a0_8 a0_9 a0_10 a0_11 a0_12 a0_13 a0_14 a0_15 a0_16 a0_17 a0_18 a0_19 a0_20 a0_21 a0_22 a0_23 a0_24 a0_25 t215 t216 t217 t218 t219 t220 t221 t222 t223 t224 t225 t226 t227 t228 t229 t230 t231 t232 t233 t234 t235 t236 t237 t238 t239 t240 _ A10.out).mono ?_
        rintro e w32 ⟨rfl, hb⟩
        refine ⟨_, rfl, ?_⟩
        have n0_ := Aside0.mk (blk_below (g := gb183) (by (with_reducible repeat (first | refine blk_drewN ?_ _ | refine blk_drew ?_ | refine blk_alloc ?_ _)); exact BK183.out) hb)
        have n1_ := Aside0.mk (blk_below (g := gb184) (by (with_reducible repeat (first | refine blk_drewN ?_ _ | refine blk_drew ?_ | refine blk_alloc ?_ _)); exact BK184.out) hb)
        have n2_ := Aside0.mk (below_step (by repeat (first | (with_reducible first | exact HB.out | apply below_alloc | apply pw_below_drewN | apply below_drew1 | refine below_set ?_ GE183.out | refine below_set ?_ GE184.out) | exact HB.out)) hb)
        clear BK183
        clear BK184
        clear HB
        have BK183 := n0_
        have BK184 := n1_
        have HB := n2_
        clear n0_ n1_ n2_
        (try clear hb)
        (try clear hb2)
        (try clear hk)
        (try clear hi)
        refine hK.out _ _ ⟨(blk_cell BK184.out 0).trans rfl, (blk_cell BK184.out 1).trans rfl, BK183.out⟩ (fun hHeld => ?_)
        clear hK K
        refine norm_ (a' := ?_) ?_ ?_
        rotate_left
        · show Act.put _ (some 25) _ = _
          simp only [Act.put, List.setIfInBounds_toArray, List.set_cons_zero, List.set_cons_succ, i64_w, i32_w, u8_w_]
          rfl
        refine one_ (i := 3) (N := some 27) #[true, true, true, true, true, false, false, false, false, false, false] rfl rfl (one_of HT_.out (by kernel_rfl)) (by decide) (fun K hK => ?_)
        refine goes_ Tryd.func9 (by kernel_rfl) rfl #[.agg #[.int .i16 a1_0, .int .i8 a1_1]] (by rfl) rfl rfl (by (try simp only [List.map_toArray, List.map_cons, List.map_nil]); first | done | rfl | (simp only [List.length_drop, List.length_take]; rfl)) ?_
        with_reducible refine (laws_toChisel.calls a1_0 a1_1 t241 t242 _ A11.out).mono ?_
        rintro e w33 ⟨rfl, hb⟩
        refine ⟨_, rfl, ?_⟩
        have n0_ := Aside0.mk (blk_below (g := gb183) (by (with_reducible repeat (first | refine blk_drewN ?_ _ | refine blk_drew ?_ | refine blk_alloc ?_ _)); exact BK183.out) hb)
        have n1_ := Aside0.mk (blk_below (g := gb184) (by (with_reducible repeat (first | refine blk_drewN ?_ _ | refine blk_drew ?_ | refine blk_alloc ?_ _)); exact BK184.out) hb)
        have n2_ := Aside0.mk (below_step (by repeat (first | (with_reducible first | exact HB.out | apply below_alloc | apply pw_below_drewN | apply below_drew1 | refine below_set ?_ GE183.out | refine below_set ?_ GE184.out) | exact HB.out)) hb)
        clear BK183
        clear BK184
        clear HB
        have BK183 := n0_
        have BK184 := n1_
        have HB := n2_
        clear n0_ n1_ n2_
        (try clear hb)
        (try clear hb2)
        (try clear hk)
        (try clear hi)
        refine hK.out _ _ ⟨(blk_cell BK184.out 0).trans rfl, (blk_cell BK184.out 1).trans rfl, BK183.out⟩ (fun hHeld => ?_)
        clear hK K
        refine norm_ (a' := ?_) ?_ ?_
        rotate_left
        · show Act.put _ (some 27) _ = _
          simp only [Act.put, List.setIfInBounds_toArray, List.set_cons_zero, List.set_cons_succ, i64_w, i32_w, u8_w_]
          rfl
        refine one_ (i := 5) (N := some 29) #[true, true, true, true, true, true, false, false, false, false, false] rfl rfl (one_of HT_.out (by kernel_rfl)) (by decide) (fun K hK => ?_)
        refine goes_ Tryd.func10 (by kernel_rfl) rfl #[.agg #[.int .i8 t215, .int .i8 t216, .int .i8 t217, .int .i8 t218, .int .i8 t219, .int .i8 t220, .int .i8 t221, .int .i8 t222, .int .i8 t223, .int .i8 t224, .int .i8 t225, .int .i8 t226, .int .i8 t227, .int .i8 t228, .int .i8 t229, .int .i8 t230, .int .i8 t231, .int .i8 t232, .int .i8 t233, .int .i8 t234, .int .i8 t235, .int .i8 t236, .int .i8 t237, .int .i8 t238, .int .i8 t239, .int .i8 t240], .agg #[.int .i16 t241, .int .i8 t242], .string a2] (by rfl) rfl rfl (by (try simp only [List.map_toArray, List.map_cons, List.map_nil]); first | done | rfl | (simp only [List.length_drop, List.length_take]; rfl)) ?_
        with_reducible refine (impl_LeastTime.calls k t215 t216 t217 t218 t219 t220 t221 t222 t223 t224 t225 t226 t227 t228 t229 t230 t231 t232 t233 t234 t235 t236 t237 t238 t239 t240 t241 t242 a2 t243 t244 _ ?sideG A12.out).mono ?_
        case sideG => first | exact HG.out.below (by repeat (first | (with_reducible first | exact HB.out | apply below_alloc | apply pw_below_drewN | apply below_drew1) | exact HB.out)) | exact (HG.out.below (by repeat (first | (with_reducible first | exact HB.out | apply below_alloc | apply pw_below_drewN | apply below_drew1) | exact HB.out))).toM
        rintro e w34 ⟨rfl, hb⟩
        refine ⟨_, rfl, ?_⟩
        have n0_ := Aside0.mk (blk_below (g := gb183) (by (with_reducible repeat (first | refine blk_drewN ?_ _ | refine blk_drew ?_ | refine blk_alloc ?_ _)); exact BK183.out) hb)
        have n1_ := Aside0.mk (blk_below (g := gb184) (by (with_reducible repeat (first | refine blk_drewN ?_ _ | refine blk_drew ?_ | refine blk_alloc ?_ _)); exact BK184.out) hb)
        have n2_ := Aside0.mk (below_step (by repeat (first | (with_reducible first | exact HB.out | apply below_alloc | apply pw_below_drewN | apply below_drew1 | refine below_set ?_ GE183.out | refine below_set ?_ GE184.out) | exact HB.out)) hb)
        clear BK183
        clear BK184
        clear HB
        have BK183 := n0_
        have BK184 := n1_
        have HB := n2_
        clear n0_ n1_ n2_
        (try clear hb)
        (try clear hb2)
        (try clear hk)
        (try clear hi)
        refine hK.out _ _ ⟨(blk_cell BK184.out 0).trans rfl, (blk_cell BK184.out 1).trans rfl, BK183.out⟩ (fun hHeld => ?_)
        clear hK K
        refine norm_ (a' := ?_) ?_ ?_
        rotate_left
        · show Act.put _ (some 29) _ = _
          simp only [Act.put, List.setIfInBounds_toArray, List.set_cons_zero, List.set_cons_succ, i64_w, i32_w, u8_w_]
          rfl
        refine pure_ (i := 6) (N := some 23) (v := ?_) (a' := ?_) #[true, true, true, true, true, true, true, false, false, false, false] rfl rfl (any_of HT_.out (by kernel_rfl)) (fun _ _ _ h => h) (Or.inl ⟨by rfl, ?_⟩) ?_ ?_
        rotate_left
        · intro w'
          go_simp
          with_reducible rfl
        rotate_left
        · simp only [Act.put, List.setIfInBounds_toArray, List.set_cons_zero, List.set_cons_succ, i64_w, i32_w, u8_w_]
          rfl
        refine pure_ (i := 7) (N := some 30) (v := ?_) (a' := ?_) #[true, true, true, true, true, true, true, true, false, false, false] rfl rfl (any_of HT_.out (by kernel_rfl)) (fun _ _ _ h => h) (Or.inl ⟨by rfl, ?_⟩) ?_ ?_
        rotate_left
        · intro w'
          go_simp
          with_reducible rfl
        rotate_left
        · simp only [Act.put, List.setIfInBounds_toArray, List.set_cons_zero, List.set_cons_succ, i64_w, i32_w, u8_w_]
          rfl
        refine pure_ (i := 8) (N := some 31) (v := ?_) (a' := ?_) #[true, true, true, true, true, true, true, true, true, false, false] rfl rfl (any_of HT_.out (by kernel_rfl)) (fun _ _ _ h => h) (Or.inl ⟨by rfl, ?_⟩) ?_ ?_
        rotate_left
        · intro w'
          go_simp
          with_reducible rfl
        rotate_left
        · simp only [Act.put, List.setIfInBounds_toArray, List.set_cons_zero, List.set_cons_succ, i64_w, i32_w, u8_w_]
          rfl
        refine pure_ (i := 9) (N := some 9) (v := ?_) (a' := ?_) #[true, true, true, true, true, true, true, true, true, true, false] rfl rfl (any_of HT_.out (by kernel_rfl)) (fun _ _ _ h => h) (Or.inl ⟨by rfl, ?_⟩) ?_ ?_
        rotate_left
        · intro w'
          go_simp
          with_reducible rfl
        rotate_left
        · simp only [Act.put, List.setIfInBounds_toArray, List.set_cons_zero, List.set_cons_succ, i64_w, i32_w, u8_w_]
          rfl
        refine pure_ (i := 10) (N := some 10) (v := ?_) (a' := ?_) #[true, true, true, true, true, true, true, true, true, true, true] rfl rfl (any_of HT_.out (by kernel_rfl)) (fun _ _ _ h => h) (Or.inl ⟨by rfl, ?_⟩) ?_ ?_
        rotate_left
        · intro w'
          go_simp
          with_reducible rfl
        rotate_left
        · simp only [Act.put, List.setIfInBounds_toArray, List.set_cons_zero, List.set_cons_succ, i64_w, i32_w, u8_w_]
          rfl
        refine done_ (done_of HT_.out (by kernel_rfl)) ?_
        try go_wp2
        go_ret
        exact ⟨by first | rfl | (simp [errW_none, errW_some, i64_w]; done) | (simp [errW_none, errW_some] <;> rfl) | (simp [*, errW_none, errW_some] <;> rfl), by repeat (first | (with_reducible first | exact HB.out | apply below_alloc | apply pw_below_drewN | apply below_drew1 | refine below_set ?_ GE183.out | refine below_set ?_ GE184.out) | exact HB.out)⟩
    · rw [if_neg c13] at H
      have c13b0 : (t243 == t213) = false := beq_eq_false_iff_ne.mpr c13
      have c13b1 : (t243 != t213) = true := bne_iff_ne.mpr c13
      obtain rfl := Option.some.inj H
      go_enter Tryd.func3, Tryd.ntmps3
      try go_wp2_with (first | ((with_reducible refine gate_dst (N := 3) rfl ?_); refine box_event ?hg (N := 3) ?hd (cs := #[.int .i8 a0_0, .int .i8 a0_1, .int .i8 a0_2, .int .i8 a0_3, .int .i8 a0_4, .int .i8 a0_5, .int .i8 a0_6, .int .i8 a0_7, .int .i8 a0_8, .int .i8 a0_9, .int .i8 a0_10, .int .i8 a0_11, .int .i8 a0_12, .int .i8 a0_13, .int .i8 a0_14, .int .i8 a0_15, .int .i8 a0_16, .int .i8 a0_17, .int .i8 a0_18, .int .i8 a0_19, .int .i8 a0_20, .int .i8 a0_21, .int .i8 a0_22, .int .i8 a0_23, .int .i8 a0_24, .int .i8 a0_25]) (t := 23) ?hr ?_; (case hd => rfl); (case hg => rfl); (case hr => first | (go_simp; done) | (go_simp; rfl)); intro gb183 hg w35 hbox hb; have n0_ := Aside0.mk (below_step (by repeat (first | (with_reducible first | exact HB.out | apply below_alloc | apply pw_below_drewN | apply below_drew1) | exact HB.out)) hb); have n1_ := Aside0.mk (hbox); have n2_ := Aside0.mk ((by rw [hg]; exact (below_size (by repeat (first | (with_reducible first | exact HB.out | apply below_alloc | apply pw_below_drewN | apply below_drew1) | exact HB.out))) : w.heap.size ≤ gb183)); have n3_ := Aside0.mk (n2_.out); clear HB; have HB := n0_; have BK183 := n1_; have GW183 := n2_; have GE183 := n3_; clear n0_ n1_ n2_ n3_; clear hb hbox hg) | ((with_reducible refine gate_dst (N := 4) rfl ?_); refine box_event ?hg (N := 4) ?hd (cs := #[.int .i16 a1_0, .int .i8 a1_1]) (t := 26) ?hr ?_; (case hd => rfl); (case hg => rfl); (case hr => first | (go_simp; done) | (go_simp; rfl)); intro gb184 hg w36 hbox hb; have n0_ := Aside0.mk (blk_below (g := gb183) (by (with_reducible repeat (first | refine blk_drewN ?_ _ | refine blk_drew ?_ | refine blk_alloc ?_ _)); exact BK183.out) hb); have n1_ := Aside0.mk (below_step (by repeat (first | (with_reducible first | exact HB.out | apply below_alloc | apply pw_below_drewN | apply below_drew1 | refine below_set ?_ GE183.out) | exact HB.out)) hb); have n2_ := Aside0.mk (hbox); have n3_ := Aside0.mk ((by rw [hg]; exact (below_size (by repeat (first | (with_reducible first | exact HB.out | apply below_alloc | apply pw_below_drewN | apply below_drew1 | refine below_set ?_ GE183.out) | exact HB.out))) : w.heap.size ≤ gb184)); have n4_ := Aside0.mk (n3_.out); have n5_ := Aside0.mk ((by rw [hg]; exact Nat.ne_of_lt (blk_lt (g := gb183) (by (with_reducible repeat (first | refine blk_drewN ?_ _ | refine blk_drew ?_ | refine blk_alloc ?_ _)); exact BK183.out)) : gb183 ≠ gb184)); have n6_ := Aside0.mk ((Ne.symm n5_.out)); clear BK183; clear HB; have BK183 := n0_; have HB := n1_; have BK184 := n2_; have GW184 := n3_; have GE184 := n4_; have NB183_184 := n5_; have NB184_183 := n6_; clear n0_ n1_ n2_ n3_ n4_ n5_ n6_; clear hb hbox hg))
      have n0_ := Aside0.mk (blk_drew BK183.out)
      have n1_ := Aside0.mk (blk_drew BK184.out)
      have n2_ := Aside0.mk (below_drew1 HB.out)
      clear BK183
      clear BK184
      clear HB
      have BK183 := n0_
      have BK184 := n1_
      have HB := n2_
      clear n0_ n1_ n2_
      refine start_ (n := 11) (S := fun w' => w'.cell? ⟨gb184, 0, none⟩ = some (.int .i16 a1_0) ∧ w'.cell? ⟨gb184, 1, none⟩ = some (.int .i8 a1_1) ∧ w'.heap[gb183]? = some (.cells #[.int .i8 a0_0, .int .i8 a0_1, .int .i8 a0_2, .int .i8 a0_3, .int .i8 a0_4, .int .i8 a0_5, .int .i8 a0_6, .int .i8 a0_7, .int .i8 a0_8, .int .i8 a0_9, .int .i8 a0_10, .int .i8 a0_11, .int .i8 a0_12, .int .i8 a0_13, .int .i8 a0_14, .int .i8 a0_15, .int .i8 a0_16, .int .i8 a0_17, .int .i8 a0_18, .int .i8 a0_19, .int .i8 a0_20, .int .i8 a0_21, .int .i8 a0_22, .int .i8 a0_23, .int .i8 a0_24, .int .i8 a0_25] 23 (0, 0))) (ds := []) #[false, false, false, false, false, false, false, false, false, false, false] (by kernel_rfl) rfl rfl ⟨(blk_cell BK184.out 0).trans rfl, (blk_cell BK184.out 1).trans rfl, BK183.out⟩ (fun hHeld => ?_); refine with_tabW laws_FnExactLeastTime.tab3 laws_FnExactLeastTime.bits3 (fun HT_ HW_ => ?_)
      generalize w36.drew = w37 at BK183 BK184 HB hHeld ⊢
      refine pure_ (i := 4) (N := some 19) (v := ?_) (a' := ?_) #[false, false, false, false, true, false, false, false, false, false, false] rfl rfl (any_of HT_.out (by kernel_rfl)) (fun _ _ _ h => h) (Or.inl ⟨by rfl, ?_⟩) ?_ ?_
      rotate_left
      · intro w'
        go_simp
        with_reducible rfl
      rotate_left
      · simp only [Act.put, List.setIfInBounds_toArray, List.set_cons_zero, List.set_cons_succ, i64_w, i32_w, u8_w_]
        rfl
      refine take_ (i := 0) (N := some 15) (v := ?_) (a' := ?_) #[true, false, false, false, true, false, false, false, false, false, false] rfl rfl (take_ofW HT_.out HW_.out (by kernel_rfl)) (fun _ _ _ h => h) (Or.inl ⟨by rfl, ?_⟩) hHeld ?_ ?_
      rotate_left
      · rintro w' ⟨s0, s1, s2⟩
        refine exec_load_partx_ 23 (.tmp 3) _ 0 [] [.int .i8 a0_0, .int .i8 a0_1, .int .i8 a0_2, .int .i8 a0_3, .int .i8 a0_4, .int .i8 a0_5, .int .i8 a0_6, .int .i8 a0_7, .int .i8 a0_8, .int .i8 a0_9, .int .i8 a0_10, .int .i8 a0_11, .int .i8 a0_12, .int .i8 a0_13, .int .i8 a0_14, .int .i8 a0_15, .int .i8 a0_16, .int .i8 a0_17, .int .i8 a0_18, .int .i8 a0_19, .int .i8 a0_20, .int .i8 a0_21, .int .i8 a0_22, .int .i8 a0_23, .int .i8 a0_24, .int .i8 a0_25] [] rfl s2 ?_ ?_ Tryd.underlying23 rfl (by exact (show (Tryd.prog.info? 23).map (·.size) = some 26 by kernel_rfl))
        · rfl
        · rfl
      rotate_left
      · simp only [Act.put, List.setIfInBounds_toArray, List.set_cons_zero, List.set_cons_succ, i64_w, i32_w, u8_w_]
        rfl
      refine take_ (i := 2) (N := some 17) (v := ?_) (a' := ?_) #[true, false, true, false, true, false, false, false, false, false, false] rfl rfl (take_ofW HT_.out HW_.out (by kernel_rfl)) (fun _ _ _ h => h) (Or.inl ⟨by rfl, ?_⟩) hHeld ?_ ?_
      rotate_left
      · rintro w' ⟨s0, s1, s2⟩
        go_simp
        with_reducible rfl
      rotate_left
      · simp only [Act.put, List.setIfInBounds_toArray, List.set_cons_zero, List.set_cons_succ, i64_w, i32_w, u8_w_]
        rfl
      refine one_ (i := 1) (N := some 16) #[true, true, true, false, true, false, false, false, false, false, false] rfl rfl (one_of HT_.out (by kernel_rfl)) (by decide) (fun K hK => ?_)
      refine goes_ Tryd.func8 (by kernel_rfl) rfl #[.agg #[.int .i8 a0_0, .int .i8 a0_1, .int .i8 a0_2, .int .i8 a0_3, .int .i8 a0_4, .int .i8 a0_5, .int .i8 a0_6, .int .i8 a0_7, .int .i8 a0_8, .int .i8 a0_9, .int .i8 a0_10, .int .i8 a0_11, .int .i8 a0_12, .int .i8 a0_13, .int .i8 a0_14, .int .i8 a0_15, .int .i8 a0_16, .int .i8 a0_17, .int .i8 a0_18, .int .i8 a0_19, .int .i8 a0_20, .int .i8 a0_21, .int .i8 a0_22, .int .i8 a0_23, .int .i8 a0_24, .int .i8 a0_25]] (by rfl) rfl rfl (by (try simp only [List.map_toArray, List.map_cons, List.map_nil]); first | done | rfl | (simp only [List.length_drop, List.length_take]; rfl)) ?_
      with_reducible refine (laws_toStrokes.calls a0_0 a0_1 a0_2 a0_3 a0_4 a0_5 a0_6 a0_7 a0_8 a0_9 a0_10 a0_11 a0_12 a0_13 a0_14 a0_15 a0_16 a0_17 a0_18 a0_19 a0_20 a0_21 a0_22 a0_23 a0_24 a0_25 t185 t186 t187 t188 t189 t190 t191 t192 t193 t194 t195 t196 t197 t198 t199 t200 t201 t202 t203 t204 t205 t206 t207 t208 t209 t210 _ A7.out).mono ?_
      rintro e w38 ⟨rfl, hb⟩
      refine ⟨_, rfl, ?_⟩
      have n0_ := Aside0.mk (blk_below (g := gb183) (by (with_reducible repeat (first | refine blk_drewN ?_ _ | refine blk_drew ?_ | refine blk_alloc ?_ _)); exact BK183.out) hb)
      have n1_ := Aside0.mk (blk_below (g := gb184) (by (with_reducible repeat (first | refine blk_drewN ?_ _ | refine blk_drew ?_ | refine blk_alloc ?_ _)); exact BK184.out) hb)
      have n2_ := Aside0.mk (below_step (by repeat (first | (with_reducible first | exact HB.out | apply below_alloc | apply pw_below_drewN | apply below_drew1 | refine below_set ?_ GE183.out | refine below_set ?_ GE184.out) | exact HB.out)) hb)
      clear BK183
      clear BK184
      clear HB
      have BK183 := n0_
      have BK184 := n1_
      have HB := n2_
      clear n0_ n1_ n2_
      (try clear hb)
      (try clear hb2)
      (try clear hk)
      (try clear hi)
      refine hK.out _ _ ⟨(blk_cell BK184.out 0).trans rfl, (blk_cell BK184.out 1).trans rfl, BK183.out⟩ (fun hHeld => ?_)
      clear hK K
      refine norm_ (a' := ?_) ?_ ?_
      rotate_left
      · show Act.put _ (some 16) _ = _
        simp only [Act.put, List.setIfInBounds_toArray, List.set_cons_zero, List.set_cons_succ, i64_w, i32_w, u8_w_]
        rfl
      refine one_ (i := 3) (N := some 18) #[true, true, true, true, true, false, false, false, false, false, false] rfl rfl (one_of HT_.out (by kernel_rfl)) (by decide) (fun K hK => ?_)
      refine goes_ Tryd.func9 (by kernel_rfl) rfl #[.agg #[.int .i16 a1_0, .int .i8 a1_1]] (by rfl) rfl rfl (by (try simp only [List.map_toArray, List.map_cons, List.map_nil]); first | done | rfl | (simp only [List.length_drop, List.length_take]; rfl)) ?_
      with_reducible refine (laws_toChisel.calls a1_0 a1_1 t211 t212 _ A8.out).mono ?_
      rintro e w39 ⟨rfl, hb⟩
      refine ⟨_, rfl, ?_⟩
      have n0_ := Aside0.mk (blk_below (g := gb183) (by (with_reducible repeat (first | refine blk_drewN ?_ _ | refine blk_drew ?_ | refine blk_alloc ?_ _)); exact BK183.out) hb)
      have n1_ := Aside0.mk (blk_below (g := gb184) (by (with_reducible repeat (first | refine blk_drewN ?_ _ | refine blk_drew ?_ | refine blk_alloc ?_ _)); exact BK184.out) hb)
      have n2_ := Aside0.mk (below_step (by repeat (first | (with_reducible first | exact HB.out | apply below_alloc | apply pw_below_drewN | apply below_drew1 | refine below_set ?_ GE183.out | refine below_set ?_ GE184.out) | exact HB.out)) hb)
      clear BK183
      clear BK184
      clear HB
      have BK183 := n0_
      have BK184 := n1_
      have HB := n2_
      clear n0_ n1_ n2_
      (try clear hb)
      (try clear hb2)
      (try clear hk)
      (try clear hi)
      refine hK.out _ _ ⟨(blk_cell BK184.out 0).trans rfl, (blk_cell BK184.out 1).trans rfl, BK183.out⟩ (fun hHeld => ?_)
      clear hK K
      refine norm_ (a' := ?_) ?_ ?_
      rotate_left
      · show Act.put _ (some 18) _ = _
        simp only [Act.put, List.setIfInBounds_toArray, List.set_cons_zero, List.set_cons_succ, i64_w, i32_w, u8_w_]
        rfl
      refine one_ (i := 5) (N := some 20) #[true, true, true, true, true, true, false, false, false, false, false] rfl rfl (one_of HT_.out (by kernel_rfl)) (by decide) (fun K hK => ?_)
      refine goes_ Tryd.func7 (by kernel_rfl) rfl #[.agg #[.int .i8 t185, .int .i8 t186, .int .i8 t187, .int .i8 t188, .int .i8 t189, .int .i8 t190, .int .i8 t191, .int .i8 t192, .int .i8 t193, .int .i8 t194, .int .i8 t195, .int .i8 t196, .int .i8 t197, .int .i8 t198, .int .i8 t199, .int .i8 t200, .int .i8 t201, .int .i8 t202, .int .i8 t203, .int .i8 t204, .int .i8 t205, .int .i8 t206, .int .i8 t207, .int .i8 t208, .int .i8 t209, .int .i8 t210], .agg #[.int .i16 t211, .int .i8 t212], .string a2] (by rfl) rfl rfl (by (try simp only [List.map_toArray, List.map_cons, List.map_nil]); first | done | rfl | (simp only [List.length_drop, List.length_take]; rfl)) ?_
      with_reducible refine (spec_LeastTime.calls t185 t186 t187 t188 t189 t190 t191 t192 t193 t194 t195 t196 t197 t198 t199 t200 t201 t202 t203 t204 t205 t206 t207 t208 t209 t210 t211 t212 a2 t213 t214 _ A9.out).mono ?_
      rintro e w40 ⟨rfl, hb⟩
      refine ⟨_, rfl, ?_⟩
      have n0_ := Aside0.mk (blk_below (g := gb183) (by (with_reducible repeat (first | refine blk_drewN ?_ _ | refine blk_drew ?_ | refine blk_alloc ?_ _)); exact BK183.out) hb)
      have n1_ := Aside0.mk (blk_below (g := gb184) (by (with_reducible repeat (first | refine blk_drewN ?_ _ | refine blk_drew ?_ | refine blk_alloc ?_ _)); exact BK184.out) hb)
      have n2_ := Aside0.mk (below_step (by repeat (first | (with_reducible first | exact HB.out | apply below_alloc | apply pw_below_drewN | apply below_drew1 | refine below_set ?_ GE183.out | refine below_set ?_ GE184.out) | exact HB.out)) hb)
      clear BK183
      clear BK184
      clear HB
      have BK183 := n0_
      have BK184 := n1_
      have HB := n2_
      clear n0_ n1_ n2_
      (try clear hb)
      (try clear hb2)
      (try clear hk)
      (try clear hi)
      refine hK.out _ _ ⟨(blk_cell BK184.out 0).trans rfl, (blk_cell BK184.out 1).trans rfl, BK183.out⟩ (fun hHeld => ?_)
      clear hK K
      refine norm_ (a' := ?_) ?_ ?_
      rotate_left
      · show Act.put _ (some 20) _ = _
        simp only [Act.put, List.setIfInBounds_toArray, List.set_cons_zero, List.set_cons_succ, i64_w, i32_w, u8_w_]
        rfl
      refine pure_ (i := 6) (N := some 14) (v := ?_) (a' := ?_) #[true, true, true, true, true, true, true, false, false, false, false] rfl rfl (any_of HT_.out (by kernel_rfl)) (fun _ _ _ h => h) (Or.inl ⟨by rfl, ?_⟩) ?_ ?_
      rotate_left
      · intro w'
        go_simp
        with_reducible rfl
      rotate_left
      · simp only [Act.put, List.setIfInBounds_toArray, List.set_cons_zero, List.set_cons_succ, i64_w, i32_w, u8_w_]
        rfl
      refine pure_ (i := 7) (N := some 21) (v := ?_) (a' := ?_) #[true, true, true, true, true, true, true, true, false, false, false] rfl rfl (any_of HT_.out (by kernel_rfl)) (fun _ _ _ h => h) (Or.inl ⟨by rfl, ?_⟩) ?_ ?_
      rotate_left
      · intro w'
        go_simp
        with_reducible rfl
      rotate_left
      · simp only [Act.put, List.setIfInBounds_toArray, List.set_cons_zero, List.set_cons_succ, i64_w, i32_w, u8_w_]
        rfl
      refine pure_ (i := 8) (N := some 22) (v := ?_) (a' := ?_) #[true, true, true, true, true, true, true, true, true, false, false] rfl rfl (any_of HT_.out (by kernel_rfl)) (fun _ _ _ h => h) (Or.inl ⟨by rfl, ?_⟩) ?_ ?_
      rotate_left
      · intro w'
        go_simp
        with_reducible rfl
      rotate_left
      · simp only [Act.put, List.setIfInBounds_toArray, List.set_cons_zero, List.set_cons_succ, i64_w, i32_w, u8_w_]
        rfl
      refine pure_ (i := 9) (N := some 7) (v := ?_) (a' := ?_) #[true, true, true, true, true, true, true, true, true, true, false] rfl rfl (any_of HT_.out (by kernel_rfl)) (fun _ _ _ h => h) (Or.inl ⟨by rfl, ?_⟩) ?_ ?_
      rotate_left
      · intro w'
        go_simp
        with_reducible rfl
      rotate_left
      · simp only [Act.put, List.setIfInBounds_toArray, List.set_cons_zero, List.set_cons_succ, i64_w, i32_w, u8_w_]
        rfl
      refine pure_ (i := 10) (N := some 8) (v := ?_) (a' := ?_) #[true, true, true, true, true, true, true, true, true, true, true] rfl rfl (any_of HT_.out (by kernel_rfl)) (fun _ _ _ h => h) (Or.inl ⟨by rfl, ?_⟩) ?_ ?_
      rotate_left
      · intro w'
        go_simp
        with_reducible rfl
      rotate_left
      · simp only [Act.put, List.setIfInBounds_toArray, List.set_cons_zero, List.set_cons_succ, i64_w, i32_w, u8_w_]
        rfl
      refine done_ (done_of HT_.out (by kernel_rfl)) ?_
      try go_wp2
      have n0_ := Aside0.mk (blk_drew BK183.out)
      have n1_ := Aside0.mk (blk_drew BK184.out)
      have n2_ := Aside0.mk (below_drew1 HB.out)
      clear BK183
      clear BK184
      clear HB
      have BK183 := n0_
      have BK184 := n1_
      have HB := n2_
      clear n0_ n1_ n2_
      refine start_ (n := 11) (S := fun w' => w'.cell? ⟨gb184, 0, none⟩ = some (.int .i16 a1_0) ∧ w'.cell? ⟨gb184, 1, none⟩ = some (.int .i8 a1_1) ∧ w'.heap[gb183]? = some (.cells #[.int .i8 a0_0, .int .i8 a0_1, .int .i8 a0_2, .int .i8 a0_3, .int .i8 a0_4, .int .i8 a0_5, .int .i8 a0_6, .int .i8 a0_7, .int .i8 a0_8, .int .i8 a0_9, .int .i8 a0_10, .int .i8 a0_11, .int .i8 a0_12, .int .i8 a0_13, .int .i8 a0_14, .int .i8 a0_15, .int .i8 a0_16, .int .i8 a0_17, .int .i8 a0_18, .int .i8 a0_19, .int .i8 a0_20, .int .i8 a0_21, .int .i8 a0_22, .int .i8 a0_23, .int .i8 a0_24, .int .i8 a0_25] 23 (0, 0))) (ds := []) #[false, false, false, false, false, false, false, false, false, false, false] (by kernel_rfl) rfl rfl ⟨(blk_cell BK184.out 0).trans rfl, (blk_cell BK184.out 1).trans rfl, BK183.out⟩ (fun hHeld => ?_); refine with_tabW laws_FnExactLeastTime.tab4 laws_FnExactLeastTime.bits4 (fun HT_ HW_ => ?_)
      generalize w40.drew = w41 at BK183 BK184 HB hHeld ⊢
      refine pure_ (i := 4) (N := some 28) (v := ?_) (a' := ?_) #[false, false, false, false, true, false, false, false, false, false, false] rfl rfl (any_of HT_.out (by kernel_rfl)) (fun _ _ _ h => h) (Or.inl ⟨by rfl, ?_⟩) ?_ ?_
      rotate_left
      · intro w'
        go_simp
        with_reducible rfl
      rotate_left
      · simp only [Act.put, List.setIfInBounds_toArray, List.set_cons_zero, List.set_cons_succ, i64_w, i32_w, u8_w_]
        rfl
      refine take_ (i := 0) (N := some 24) (v := ?_) (a' := ?_) #[true, false, false, false, true, false, false, false, false, false, false] rfl rfl (take_ofW HT_.out HW_.out (by kernel_rfl)) (fun _ _ _ h => h) (Or.inl ⟨by rfl, ?_⟩) hHeld ?_ ?_
      rotate_left
      · rintro w' ⟨s0, s1, s2⟩
        refine exec_load_partx_ 23 (.tmp 3) _ 0 [] [.int .i8 a0_0, .int .i8 a0_1, .int .i8 a0_2, .int .i8 a0_3, .int .i8 a0_4, .int .i8 a0_5, .int .i8 a0_6, .int .i8 a0_7, .int .i8 a0_8, .int .i8 a0_9, .int .i8 a0_10, .int .i8 a0_11, .int .i8 a0_12, .int .i8 a0_13, .int .i8 a0_14, .int .i8 a0_15, .int .i8 a0_16, .int .i8 a0_17, .int .i8 a0_18, .int .i8 a0_19, .int .i8 a0_20, .int .i8 a0_21, .int .i8 a0_22, .int .i8 a0_23, .int .i8 a0_24, .int .i8 a0_25] [] rfl s2 ?_ ?_ Tryd.underlying23 rfl (by exact (show (Tryd.prog.info? 23).map (·.size) = some 26 by kernel_rfl))
        · rfl
        · rfl
      rotate_left
      · simp only [Act.put, List.setIfInBounds_toArray, List.set_cons_zero, List.set_cons_succ, i64_w, i32_w, u8_w_]
        rfl
      refine take_ (i := 2) (N := some 26) (v := ?_) (a' := ?_) #[true, false, true, false, true, false, false, false, false, false, false] rfl rfl (take_ofW HT_.out HW_.out (by kernel_rfl)) (fun _ _ _ h => h) (Or.inl ⟨by rfl, ?_⟩) hHeld ?_ ?_
      rotate_left
      · rintro w' ⟨s0, s1, s2⟩
        go_simp
        with_reducible rfl
      rotate_left
      · simp only [Act.put, List.setIfInBounds_toArray, List.set_cons_zero, List.set_cons_succ, i64_w, i32_w, u8_w_]
        rfl
      refine one_ (i := 1) (N := some 25) #[true, true, true, false, true, false, false, false, false, false, false] rfl rfl (one_of HT_.out (by kernel_rfl)) (by decide) (fun K hK => ?_)
      refine goes_ Tryd.func8 (by kernel_rfl) rfl #[.agg #[.int .i8 a0_0, .int .i8 a0_1, .int .i8 a0_2, .int .i8 a0_3, .int .i8 a0_4, .int .i8 a0_5, .int .i8 a0_6, .int .i8 a0_7, .int .i8 a0_8, .int .i8 a0_9, .int .i8 a0_10, .int .i8 a0_11, .int .i8 a0_12, .int .i8 a0_13, .int .i8 a0_14, .int .i8 a0_15, .int .i8 a0_16, .int .i8 a0_17, .int .i8 a0_18, .int .i8 a0_19, .int .i8 a0_20, .int .i8 a0_21, .int .i8 a0_22, .int .i8 a0_23, .int .i8 a0_24, .int .i8 a0_25]] (by rfl) rfl rfl (by (try simp only [List.map_toArray, List.map_cons, List.map_nil]); first | done | rfl | (simp only [List.length_drop, List.length_take]; rfl)) ?_
      with_reducible refine (laws_toStrokes.calls a0_0 a0_1 a0_2 a0_3 a0_4 a0_5 a0_6 a0_7 a0_8 a0_9 a0_10 a0_11 a0_12 a0_13 a0_14 a0_15 a0_16 a0_17 a0_18 a0_19 a0_20 a0_21 a0_22 a0_23 a0_24 a0_25 t215 t216 t217 t218 t219 t220 t221 t222 t223 t224 t225 t226 t227 t228 t229 t230 t231 t232 t233 t234 t235 t236 t237 t238 t239 t240 _ A10.out).mono ?_
      rintro e w42 ⟨rfl, hb⟩
      refine ⟨_, rfl, ?_⟩
      have n0_ := Aside0.mk (blk_below (g := gb183) (by (with_reducible repeat (first | refine blk_drewN ?_ _ | refine blk_drew ?_ | refine blk_alloc ?_ _)); exact BK183.out) hb)
      have n1_ := Aside0.mk (blk_below (g := gb184) (by (with_reducible repeat (first | refine blk_drewN ?_ _ | refine blk_drew ?_ | refine blk_alloc ?_ _)); exact BK184.out) hb)
      have n2_ := Aside0.mk (below_step (by repeat (first | (with_reducible first | exact HB.out | apply below_alloc | apply pw_below_drewN | apply below_drew1 | refine below_set ?_ GE183.out | refine below_set ?_ GE184.out) | exact HB.out)) hb)
      clear BK183
      clear BK184
      clear HB
      have BK183 := n0_
      have BK184 := n1_
      have HB := n2_
      clear n0_ n1_ n2_
      (try clear hb)
      (try clear hb2)
      (try clear hk)
      (try clear hi)
      refine hK.out _ _ ⟨(blk_cell BK184.out 0).trans rfl, (blk_cell BK184.out 1).trans rfl, BK183.out⟩ (fun hHeld => ?_)
      clear hK K
      refine norm_ (a' := ?_) ?_ ?_
      rotate_left
      · show Act.put _ (some 25) _ = _
        simp only [Act.put, List.setIfInBounds_toArray, List.set_cons_zero, List.set_cons_succ, i64_w, i32_w, u8_w_]
        rfl
      refine one_ (i := 3) (N := some 27) #[true, true, true, true, true, false, false, false, false, false, false] rfl rfl (one_of HT_.out (by kernel_rfl)) (by decide) (fun K hK => ?_)
      refine goes_ Tryd.func9 (by kernel_rfl) rfl #[.agg #[.int .i16 a1_0, .int .i8 a1_1]] (by rfl) rfl rfl (by (try simp only [List.map_toArray, List.map_cons, List.map_nil]); first | done | rfl | (simp only [List.length_drop, List.length_take]; rfl)) ?_
      with_reducible refine (laws_toChisel.calls a1_0 a1_1 t241 t242 _ A11.out).mono ?_
      rintro e w43 ⟨rfl, hb⟩
      refine ⟨_, rfl, ?_⟩
      have n0_ := Aside0.mk (blk_below (g := gb183) (by (with_reducible repeat (first | refine blk_drewN ?_ _ | refine blk_drew ?_ | refine blk_alloc ?_ _)); exact BK183.out) hb)
      have n1_ := Aside0.mk (blk_below (g := gb184) (by (with_reducible repeat (first | refine blk_drewN ?_ _ | refine blk_drew ?_ | refine blk_alloc ?_ _)); exact BK184.out) hb)
      have n2_ := Aside0.mk (below_step (by repeat (first | (with_reducible first | exact HB.out | apply below_alloc | apply pw_below_drewN | apply below_drew1 | refine below_set ?_ GE183.out | refine below_set ?_ GE184.out) | exact HB.out)) hb)
      clear BK183
      clear BK184
      clear HB
      have BK183 := n0_
      have BK184 := n1_
      have HB := n2_
      clear n0_ n1_ n2_
      (try clear hb)
      (try clear hb2)
      (try clear hk)
      (try clear hi)
      refine hK.out _ _ ⟨(blk_cell BK184.out 0).trans rfl, (blk_cell BK184.out 1).trans rfl, BK183.out⟩ (fun hHeld => ?_)
      clear hK K
      refine norm_ (a' := ?_) ?_ ?_
      rotate_left
      · show Act.put _ (some 27) _ = _
        simp only [Act.put, List.setIfInBounds_toArray, List.set_cons_zero, List.set_cons_succ, i64_w, i32_w, u8_w_]
        rfl
      refine one_ (i := 5) (N := some 29) #[true, true, true, true, true, true, false, false, false, false, false] rfl rfl (one_of HT_.out (by kernel_rfl)) (by decide) (fun K hK => ?_)
      refine goes_ Tryd.func10 (by kernel_rfl) rfl #[.agg #[.int .i8 t215, .int .i8 t216, .int .i8 t217, .int .i8 t218, .int .i8 t219, .int .i8 t220, .int .i8 t221, .int .i8 t222, .int .i8 t223, .int .i8 t224, .int .i8 t225, .int .i8 t226, .int .i8 t227, .int .i8 t228, .int .i8 t229, .int .i8 t230, .int .i8 t231, .int .i8 t232, .int .i8 t233, .int .i8 t234, .int .i8 t235, .int .i8 t236, .int .i8 t237, .int .i8 t238, .int .i8 t239, .int .i8 t240], .agg #[.int .i16 t241, .int .i8 t242], .string a2] (by rfl) rfl rfl (by (try simp only [List.map_toArray, List.map_cons, List.map_nil]); first | done | rfl | (simp only [List.length_drop, List.length_take]; rfl)) ?_
      with_reducible refine (impl_LeastTime.calls k t215 t216 t217 t218 t219 t220 t221 t222 t223 t224 t225 t226 t227 t228 t229 t230 t231 t232 t233 t234 t235 t236 t237 t238 t239 t240 t241 t242 a2 t243 t244 _ ?sideG A12.out).mono ?_
      case sideG => first | exact HG.out.below (by repeat (first | (with_reducible first | exact HB.out | apply below_alloc | apply pw_below_drewN | apply below_drew1) | exact HB.out)) | exact (HG.out.below (by repeat (first | (with_reducible first | exact HB.out | apply below_alloc | apply pw_below_drewN | apply below_drew1) | exact HB.out))).toM
      rintro e w44 ⟨rfl, hb⟩
      refine ⟨_, rfl, ?_⟩
      have n0_ := Aside0.mk (blk_below (g := gb183) (by (with_reducible repeat (first | refine blk_drewN ?_ _ | refine blk_drew ?_ | refine blk_alloc ?_ _)); exact BK183.out) hb)
      have n1_ := Aside0.mk (blk_below (g := gb184) (by (with_reducible repeat (first | refine blk_drewN ?_ _ | refine blk_drew ?_ | refine blk_alloc ?_ _)); exact BK184.out) hb)
      have n2_ := Aside0.mk (below_step (by repeat (first | (with_reducible first | exact HB.out | apply below_alloc | apply pw_below_drewN | apply below_drew1 | refine below_set ?_ GE183.out | refine below_set ?_ GE184.out) | exact HB.out)) hb)
      clear BK183
      clear BK184
      clear HB
      have BK183 := n0_
      have BK184 := n1_
      have HB := n2_
      clear n0_ n1_ n2_
      (try clear hb)
      (try clear hb2)
      (try clear hk)
      (try clear hi)
      refine hK.out _ _ ⟨(blk_cell BK184.out 0).trans rfl, (blk_cell BK184.out 1).trans rfl, BK183.out⟩ (fun hHeld => ?_)
      clear hK K
      refine norm_ (a' := ?_) ?_ ?_
      rotate_left
      · show Act.put _ (some 29) _ = _
        simp only [Act.put, List.setIfInBounds_toArray, List.set_cons_zero, List.set_cons_succ, i64_w, i32_w, u8_w_]
        rfl
      refine pure_ (i := 6) (N := some 23) (v := ?_) (a' := ?_) #[true, true, true, true, true, true, true, false, false, false, false] rfl rfl (any_of HT_.out (by kernel_rfl)) (fun _ _ _ h => h) (Or.inl ⟨by rfl, ?_⟩) ?_ ?_
      rotate_left
      · intro w'
        go_simp
        with_reducible rfl
      rotate_left
      · simp only [Act.put, List.setIfInBounds_toArray, List.set_cons_zero, List.set_cons_succ, i64_w, i32_w, u8_w_]
        rfl
      refine pure_ (i := 7) (N := some 30) (v := ?_) (a' := ?_) #[true, true, true, true, true, true, true, true, false, false, false] rfl rfl (any_of HT_.out (by kernel_rfl)) (fun _ _ _ h => h) (Or.inl ⟨by rfl, ?_⟩) ?_ ?_
      rotate_left
      · intro w'
        go_simp
        with_reducible rfl
      rotate_left
      · simp only [Act.put, List.setIfInBounds_toArray, List.set_cons_zero, List.set_cons_succ, i64_w, i32_w, u8_w_]
        rfl
      refine pure_ (i := 8) (N := some 31) (v := ?_) (a' := ?_) #[true, true, true, true, true, true, true, true, true, false, false] rfl rfl (any_of HT_.out (by kernel_rfl)) (fun _ _ _ h => h) (Or.inl ⟨by rfl, ?_⟩) ?_ ?_
      rotate_left
      · intro w'
        go_simp
        with_reducible rfl
      rotate_left
      · simp only [Act.put, List.setIfInBounds_toArray, List.set_cons_zero, List.set_cons_succ, i64_w, i32_w, u8_w_]
        rfl
      refine pure_ (i := 9) (N := some 9) (v := ?_) (a' := ?_) #[true, true, true, true, true, true, true, true, true, true, false] rfl rfl (any_of HT_.out (by kernel_rfl)) (fun _ _ _ h => h) (Or.inl ⟨by rfl, ?_⟩) ?_ ?_
      rotate_left
      · intro w'
        go_simp
        with_reducible rfl
      rotate_left
      · simp only [Act.put, List.setIfInBounds_toArray, List.set_cons_zero, List.set_cons_succ, i64_w, i32_w, u8_w_]
        rfl
      refine pure_ (i := 10) (N := some 10) (v := ?_) (a' := ?_) #[true, true, true, true, true, true, true, true, true, true, true] rfl rfl (any_of HT_.out (by kernel_rfl)) (fun _ _ _ h => h) (Or.inl ⟨by rfl, ?_⟩) ?_ ?_
      rotate_left
      · intro w'
        go_simp
        with_reducible rfl
      rotate_left
      · simp only [Act.put, List.setIfInBounds_toArray, List.set_cons_zero, List.set_cons_succ, i64_w, i32_w, u8_w_]
        rfl
      refine done_ (done_of HT_.out (by kernel_rfl)) ?_
      try go_wp2
      go_ret
      exact ⟨by first | rfl | (simp [errW_none, errW_some, i64_w]; done) | (simp [errW_none, errW_some] <;> rfl) | (simp [*, errW_none, errW_some] <;> rfl), by repeat (first | (with_reducible first | exact HB.out | apply below_alloc | apply pw_below_drewN | apply below_drew1 | refine below_set ?_ GE183.out | refine below_set ?_ GE184.out) | exact HB.out)⟩
end Go.Proofs.YtfnhjoemmiepiaaDoor.Q
namespace Go.Proofs.YtfnhjoemmiepiaaDoor.Pure
open Go.RowKit Go.Proofs.YtfnhjoemmiepiaaDoor.Ext Go.Proofs.YtfnhjoemmiepiaaDoor.Q Go.Proofs.YtfnhjoemmiepiaaDoorW.PrintWords Go.Proofs.YtfnhjoemmiepiaaDoorW.PrintLast Go.Proofs.YtfnhjoemmiepiaaDoorW.PrintMore
set_option linter.unusedVariables false
set_option linter.unusedSimpArgs false
set_option maxRecDepth 100000
def bitTab : Bool := (List.range 256).all fun s => (List.range 8).all fun i => (Go.bits .and .i64 ((s / 2 ^ i : Nat) : Int) 1 == ((s / 2 ^ i % 2 : Nat) : Int)) && (s / 2 ^ i % 2 == 0 || Go.bits .andNot .i64 (s : Int) ((2 ^ i : Nat) : Int) == ((s - 2 ^ i : Nat) : Int))
theorem bitTab_ok : bitTab = true := by kernel_rfl
theorem bit_at {s i : Nat} (hs : s < 256) (hi : i < 8) : Go.bits .and .i64 ((s / 2 ^ i : Nat) : Int) 1 = ((s / 2 ^ i % 2 : Nat) : Int) ∧ (¬ s / 2 ^ i % 2 = 0 → Go.bits .andNot .i64 (s : Int) ((2 ^ i : Nat) : Int) = ((s - 2 ^ i : Nat) : Int)) := by
  have h := bitTab_ok
  unfold bitTab at h
  rw [List.all_eq_true] at h
  have h2 := h s (List.mem_range.2 hs)
  rw [List.all_eq_true] at h2
  have h3 := h2 i (List.mem_range.2 hi)
  rw [Bool.and_eq_true, Bool.or_eq_true, beq_iff_eq, beq_iff_eq, beq_iff_eq] at h3
  exact ⟨h3.1, fun hn => h3.2.resolve_left hn⟩
theorem total_l0 (l : List Int) (hl : l.length ≤ 4611686018427387904) : ∀ (d k n : Nat) (a : Int), n + d = l.length → d < k → impl_total.l0 k a l (l.length : Int) n = some (wsum a (l.drop n))
  | 0, k, n, a, hd, hk => by
    obtain ⟨k, rfl⟩ := some_k hk
    simp only [impl_total.l0]
    rw [if_neg (by omega), List.drop_eq_nil_of_le (by omega)]
    rfl
  | d + 1, k, n, a, hd, hk => by
    obtain ⟨k, rfl⟩ := some_k hk
    simp only [impl_total.l0]
    rw [if_pos (by omega), if_pos (by omega), if_pos (by omega), wrap_succ n (by omega), total_l0 l hl d k (n + 1) _ (by omega) (by omega), drop_cons l n (by omega)]
    rfl
theorem total_eq (l : List Int) (hl : l.length ≤ 4611686018427387904) {k : Nat} (hk : l.length < k) : impl_total.f k l = some (wsum 0 l) := by
  unfold impl_total.f
  have := total_l0 l hl l.length k 0 0 (by omega) hk
  simpa using this
structure Two (M : Nat) (b : List S62) (st : List Int × List Int) : Prop where
  len : b.length = M
  at_ : ∀ j : Nat, j < M → rd_T62 b (j : Int) = ⟨rd st.1 (j : Int), rd st.2 (j : Int)⟩
theorem rd62_self (l : List S62) (n : Nat) (v : S62) (h : n < l.length) : rd_T62 (l.set n v) (n : Int) = v := by
  unfold rd_T62
  rw [Int.toNat_natCast, List.getD_eq_getElem?_getD, List.getElem?_set_self h]
  rfl
theorem rd62_ne (l : List S62) (n j : Nat) (v : S62) (h : n ≠ j) : rd_T62 (l.set n v) (j : Int) = rd_T62 l (j : Int) := by
  unfold rd_T62
  rw [Int.toNat_natCast, List.getD_eq_getElem?_getD, List.getD_eq_getElem?_getD, List.getElem?_set_ne h]
theorem Two.put {M : Nat} {b : List S62} {st : List Int × List Int} (h : Two M b st) (h1 : st.1.length = M) (h2 : st.2.length = M) (n : Nat) (hn : n < M) (x y : Int) : Two M (b.set n ⟨x, y⟩) (st.1.set n x, st.2.set n y) := by
  have hl := h.len
  refine ⟨by rw [List.length_set]; exact hl, fun j hj => ?_⟩
  by_cases e : n = j
  · subst e
    rw [rd62_self _ _ _ (by omega)]
    simp only
    rw [rd_set_self _ _ _ (by omega), rd_set_self _ _ _ (by omega)]
  · rw [rd62_ne _ _ _ _ e, h.at_ j hj]
    simp only
    rw [rd_set_ne _ _ _ _ e, rd_set_ne _ _ _ _ e]
theorem Two.begin {M : Nat} {b : List S62} {st : List Int × List Int} (h : Two M b st) (h1 : st.1.length = M) (n : Nat) (hn : n < M) : Two M (b.set n ⟨-1, rd st.2 (n : Int)⟩) (st.1.set n (-1), st.2) := by
  have hl := h.len
  refine ⟨by rw [List.length_set]; exact hl, fun j hj => ?_⟩
  by_cases e : n = j
  · subst e
    rw [rd62_self _ _ _ (by omega)]
    simp only
    rw [rd_set_self _ _ _ (by omega)]
  · rw [rd62_ne _ _ _ _ e, h.at_ j hj]
    simp only
    rw [rd_set_ne _ _ _ _ e]
theorem two_zero (M : Nat) : Two M (List.replicate M z62) (List.replicate M 0, List.replicate M 0) := by
  refine ⟨by simp, fun j hj => ?_⟩
  unfold rd_T62 rd
  rw [Int.toNat_natCast, List.getD_eq_getElem?_getD, List.getD_eq_getElem?_getD, List.getElem?_replicate, List.getElem?_replicate, if_pos hj, if_pos hj]
  rfl
theorem pick3i {α : Type} (own now x y : Int) (A B : α) :
    (if x < 0 then A else (if own < x then A else (if own = x then (if now < y then A else B) else B))) = if better own now x y = true then A else B := by
  unfold better
  by_cases h1 : x < 0
  · simp [h1]
  · by_cases h2 : own < x
    · simp [h1, h2]
    · by_cases h3 : own = x
      · simp [h1, h2, h3]
      · simp [h1, h2, h3]
theorem shl_eq' (i : Nat) (h : i ≤ 8) : shl .i64 1 (i : Int) = ((2 ^ i : Nat) : Int) := by
  have := shl_eq i h
  rwa [u64_self i h] at this
theorem implLeast_l1 (a b : Int) (ha : 0 ≤ a ∧ a ≤ 32767) (t : List Int) (hT : TOk t) (M : Nat) (hM : M = 2 ^ t.length) (hM2 : M ≤ 256) (s : Nat) (hs : s < M) (h1 : 1 ≤ s) : ∀ (d k i : Nat) (st : List Int × List Int) (q : List S62), i + d = t.length → DpOk M st → Two M q st →
    ∃ q2, Two M q2 ((List.range' i d).foldl (dpStep a t s) st) ∧ impl_LeastTime.l1 (k + 1 + d) t q (s : Int) t (t.length : Int) (i : Int) a b = impl_LeastTime.l0 k t q2 ((s + 1 : Nat) : Int) a b
  | 0, k, i, st, q, hd, hst, hq => by
    refine ⟨q, hq, ?_⟩
    simp only [impl_LeastTime.l1, Nat.add_zero]
    rw [if_neg (by omega), wrap_succ s (by omega)]
  | d + 1, k, i, st, q, hd, hst, hq => by
    have hi8 : i ≤ 8 := by have := hT.len; omega
    have hi : i < t.length := by omega
    have hi9 : i < 8 := by have := hT.len; omega
    have r := hT.rng i hi
    have hs1 := hst.l1
    have hs2 := hst.l2
    have hql := hq.len
    have hst2 := hst.step ha hT hs i hi
    have ih : ∀ q2, Two M q2 (dpStep a t s st i) → ∃ q3, Two M q3 ((List.range' i (d + 1)).foldl (dpStep a t s) st) ∧ impl_LeastTime.l1 (k + 1 + d) t q2 (s : Int) t (t.length : Int) (wrap64 ((i : Int) + 1)) a b = impl_LeastTime.l0 k t q3 ((s + 1 : Nat) : Int) a b := fun q2 h2 => by
      rw [wrap_succ i (by omega), List.range'_succ, List.foldl_cons]
      exact implLeast_l1 a b ha t hT M hM hM2 s hs h1 d k (i + 1) _ q2 (by omega) hst2 h2
    rw [show k + 1 + (d + 1) = (k + 1 + d) + 1 by omega]
    simp only [impl_LeastTime.l1]
    have hbit := bit_at (s := s) (i := i) (by omega) hi9
    rw [if_pos (by omega), if_pos (by omega), if_pos (by omega), shr_nat s i hi8, hbit.1]
    by_cases hb : s / 2 ^ i % 2 = 0
    · rw [if_pos (by omega)]
      exact ih q (by unfold dpStep; rw [if_pos hb]; exact hq)
    · have hle := bit_le hb
      have hp : 0 < 2 ^ i := Nat.pow_pos (by omega)
      have b1 := hst.r1 (s - 2 ^ i) (by omega)
      have b2 := hst.r2 (s - 2 ^ i) (by omega)
      have b3 := hst.r1 s hs
      rw [if_neg (by omega), shl_eq' i hi8, hbit.2 hb, if_pos (by omega), if_pos (by omega)]
      rw [hq.at_ (s - 2 ^ i) (by omega), hq.at_ s hs]
      simp only
      rw [w6i (x := rd st.2 ((s - 2 ^ i : Nat) : Int) + rd t (i : Int)) (by omega), w6i (x := a) (by omega), w6i (x := rd st.1 ((s - 2 ^ i : Nat) : Int) + 1) (by omega), w6i (x := 0 + rd t (i : Int)) (by omega), Int.zero_add, Int.toNat_natCast]
      have e : dpStep a t s st i = if better (ownV a t st (s - 2 ^ i) i) (nowV a t st (s - 2 ^ i) i) (rd st.1 (s : Int)) (rd st.2 (s : Int)) = true then (st.1.set s (ownV a t st (s - 2 ^ i) i), st.2.set s (nowV a t st (s - 2 ^ i) i)) else st := by
        unfold dpStep; rw [if_neg hb]
      unfold ownV nowV at e
      by_cases hH : rd st.2 ((s - 2 ^ i : Nat) : Int) + rd t (i : Int) > a
      · rw [if_pos hH, if_pos hH] at e
        rw [if_pos hH, if_pos (by omega), if_pos (by omega), pick3i]
        split
        · rename_i hx
          rw [if_pos hx] at e
          exact ih _ (by rw [e]; exact hq.put hs1 hs2 s hs _ _)
        · rename_i hx
          rw [if_neg hx] at e
          exact ih _ (by rw [e]; exact hq)
      · rw [if_neg hH, if_neg hH] at e
        rw [if_neg hH, if_pos (by omega), if_pos (by omega), pick3i]
        split
        · rename_i hx
          rw [if_pos hx] at e
          exact ih _ (by rw [e]; exact hq.put hs1 hs2 s hs _ _)
        · rename_i hx
          rw [if_neg hx] at e
          exact ih _ (by rw [e]; exact hq)
theorem implLeast_l0 (a b : Int) (ha : 0 ≤ a ∧ a ≤ 32767) (t : List Int) (hT : TOk t) (M : Nat) (hM : M = 2 ^ t.length) (hM2 : M ≤ 256) : ∀ (d k s : Nat) (st : List Int × List Int) (q : List S62), s + d = M → 1 ≤ s → DpOk M st → Two M q st → 20 ≤ k →
    impl_LeastTime.l0 (k + d * (t.length + 2)) t q (s : Int) a b = some (wrap64 (wsum 0 t + wrap64 (rd ((List.range' s d).foldl (dpSet a t) st).1 ((M - 1 : Nat) : Int) * wrap64 b)), 0)
  | 0, k, s, st, q, hd, h1, hst, hq, hk => by
    obtain ⟨k, rfl⟩ := some_k (show 0 < k by omega)
    have hl := hq.len
    have := hT.len
    simp only [Nat.zero_mul, Nat.add_zero, impl_LeastTime.l0]
    rw [if_neg (by omega), total_eq t (by omega) (by omega), Option.bind_some, hl, w6i (x := (M : Int) - 1) (by omega), if_pos (by omega), if_pos (by omega), show ((M : Int) - 1) = ((M - 1 : Nat) : Int) by omega, hq.at_ (M - 1) (by omega)]
    rfl
  | d + 1, k, s, st, q, hd, h1, hst, hq, hk => by
    have hl := hq.len
    have hs1 := hst.l1
    have hs : s < M := by omega
    have e : k + (d + 1) * (t.length + 2) = ((k + d * (t.length + 2)) + 1 + t.length) + 1 := by rw [Nat.succ_mul]; omega
    rw [e]
    simp only [impl_LeastTime.l0]
    rw [if_pos (by omega), if_pos (by omega), Int.toNat_natCast, hq.at_ s hs]
    obtain ⟨q2, h2, h3⟩ := implLeast_l1 a b ha t hT M hM hM2 s hs h1 t.length (k + d * (t.length + 2)) 0 (st.1.set s (-1), st.2) _ (by omega) (hst.begin s hs) (hq.begin hs1 s hs)
    refine h3.trans ?_
    rw [← dpSet_range] at h2
    rw [implLeast_l0 a b ha t hT M hM hM2 d k (s + 1) _ q2 (by omega) (by omega) (hst.sets ha hT hs) h2 hk]
    rw [List.range'_succ, List.foldl_cons]
theorem implLeast_core (a b : Int) (ha : 0 ≤ a ∧ a ≤ 32767) (t : List Int) (hT : TOk t) : impl_LeastTime.l0 5000 t (List.replicate (2 ^ t.length) z62) 1 a b = some (leastC a b t, 0) := by
  have hM := pow_len hT
  have hp : 0 < 2 ^ t.length := Nat.pow_pos (by omega)
  have q := implLeast_l0 a b ha t hT _ rfl hM (2 ^ t.length - 1) (5000 - (2 ^ t.length - 1) * (t.length + 2)) 1 (List.replicate (2 ^ t.length) 0, List.replicate (2 ^ t.length) 0) _ (by omega) (by omega) (dp_zero _) (two_zero _) (by
    have h8 := hT.len
    have : (2 ^ t.length - 1) * (t.length + 2) ≤ 255 * 10 := Nat.mul_le_mul (by omega) (by omega)
    omega)
  have e : 5000 - (2 ^ t.length - 1) * (t.length + 2) + (2 ^ t.length - 1) * (t.length + 2) = 5000 := by
    have h8 := hT.len
    have : (2 ^ t.length - 1) * (t.length + 2) ≤ 255 * 10 := Nat.mul_le_mul (by omega) (by omega)
    omega
  rw [e] at q
  refine q.trans ?_
  unfold leastC dpAll
  rw [w6i (x := a) (by omega)]
theorem implLeast_eq (a0_0 a0_1 a0_2 a0_3 a0_4 a0_5 a0_6 a0_7 a0_8 a0_9 a0_10 a0_11 a0_12 a0_13 a0_14 a0_15 a0_16 a0_17 a0_18 a0_19 a0_20 a0_21 a0_22 a0_23 a0_24 a0_25 a b : Int) (s : ByteArray) (h8 : rng8 [a0_0, a0_1, a0_2, a0_3, a0_4, a0_5, a0_6, a0_7, a0_8, a0_9, a0_10, a0_11, a0_12, a0_13, a0_14, a0_15, a0_16, a0_17, a0_18, a0_19, a0_20, a0_21, a0_22, a0_23, a0_24, a0_25] = true) (hc : rngC a b = true) : impl_LeastTime.f 5000 a0_0 a0_1 a0_2 a0_3 a0_4 a0_5 a0_6 a0_7 a0_8 a0_9 a0_10 a0_11 a0_12 a0_13 a0_14 a0_15 a0_16 a0_17 a0_18 a0_19 a0_20 a0_21 a0_22 a0_23 a0_24 a0_25 a b s = some (ltC [a0_0, a0_1, a0_2, a0_3, a0_4, a0_5, a0_6, a0_7, a0_8, a0_9, a0_10, a0_11, a0_12, a0_13, a0_14, a0_15, a0_16, a0_17, a0_18, a0_19, a0_20, a0_21, a0_22, a0_23, a0_24, a0_25] a b s) := by
  unfold impl_LeastTime.f impl_chiselCode.f
  rw [if_pos (by rw [h8, hc]; rfl), Option.bind_some]
  unfold ltC
  cases hok : okC [a0_0, a0_1, a0_2, a0_3, a0_4, a0_5, a0_6, a0_7, a0_8, a0_9, a0_10, a0_11, a0_12, a0_13, a0_14, a0_15, a0_16, a0_17, a0_18, a0_19, a0_20, a0_21, a0_22, a0_23, a0_24, a0_25] a b s
  · rfl
  · rw [show codeOf true = 0 from rfl, if_pos rfl, if_pos rfl]
    unfold impl_Strokes_each.f
    rw [if_pos (by rw [h8, okC_3 hok]; rfl), Option.bind_some]
    have hT := tok_of (l := [a0_0, a0_1, a0_2, a0_3, a0_4, a0_5, a0_6, a0_7, a0_8, a0_9, a0_10, a0_11, a0_12, a0_13, a0_14, a0_15, a0_16, a0_17, a0_18, a0_19, a0_20, a0_21, a0_22, a0_23, a0_24, a0_25]) rfl (okC_1 hok) (txt_letters (okC_3 hok))
    have hA := okC_a hok
    generalize strokesOf [a0_0, a0_1, a0_2, a0_3, a0_4, a0_5, a0_6, a0_7, a0_8, a0_9, a0_10, a0_11, a0_12, a0_13, a0_14, a0_15, a0_16, a0_17, a0_18, a0_19, a0_20, a0_21, a0_22, a0_23, a0_24, a0_25] (letters s.data.toList) = t at *
    by_cases h : 8 < t.length
    · rw [if_pos h, if_pos (by omega)]
    · have hT2 := hT h
      have hp : 0 < 2 ^ t.length := Nat.pow_pos (by omega)
      have hM := pow_len hT2
      rw [if_neg h, if_neg (by omega), shl_eq' _ hT2.len, if_pos (by omega), Int.toNat_natCast, if_pos (by omega)]
      exact implLeast_core a b hA t hT2
theorem leastTime_ok (a0_0 a0_1 a0_2 a0_3 a0_4 a0_5 a0_6 a0_7 a0_8 a0_9 a0_10 a0_11 a0_12 a0_13 a0_14 a0_15 a0_16 a0_17 a0_18 a0_19 a0_20 a0_21 a0_22 a0_23 a0_24 a0_25 a b : Int) (s : ByteArray) (h8 : rng8 [a0_0, a0_1, a0_2, a0_3, a0_4, a0_5, a0_6, a0_7, a0_8, a0_9, a0_10, a0_11, a0_12, a0_13, a0_14, a0_15, a0_16, a0_17, a0_18, a0_19, a0_20, a0_21, a0_22, a0_23, a0_24, a0_25] = true) (hc : rngC a b = true) : laws_FnExactLeastTime.f 5000 a0_0 a0_1 a0_2 a0_3 a0_4 a0_5 a0_6 a0_7 a0_8 a0_9 a0_10 a0_11 a0_12 a0_13 a0_14 a0_15 a0_16 a0_17 a0_18 a0_19 a0_20 a0_21 a0_22 a0_23 a0_24 a0_25 a b s = some true := by
  unfold laws_FnExactLeastTime.f
  split
  · rfl
  · rename_i hs
    simp only [laws_toStrokes.f, laws_toChisel.f, Option.bind_some]
    unfold spec_LeastTime.f
    rw [if_pos ⟨by rw [h8, hc]; rfl, by omega⟩, Option.bind_some, implLeast_eq a0_0 a0_1 a0_2 a0_3 a0_4 a0_5 a0_6 a0_7 a0_8 a0_9 a0_10 a0_11 a0_12 a0_13 a0_14 a0_15 a0_16 a0_17 a0_18 a0_19 a0_20 a0_21 a0_22 a0_23 a0_24 a0_25 a b s h8 hc, Option.bind_some, if_pos rfl, if_pos rfl]
open Go.RowKit Go.Proofs.YtfnhjoemmiepiaaDoor.Ext Go.Proofs.YtfnhjoemmiepiaaDoor.Q Go.Proofs.YtfnhjoemmiepiaaDoor.Txt Go.Proofs.YtfnhjoemmiepiaaDoorW.PrintWords Go.Proofs.YtfnhjoemmiepiaaDoorW.PrintLast Go.Proofs.YtfnhjoemmiepiaaDoorW.PrintMore
theorem len_cons {n : Nat} {l : List Int} (h : l.length = n + 1) : ∃ x l2, l = x :: l2 ∧ l2.length = n := by
  match l, h with
  | x :: l2, h => exact ⟨x, l2, rfl, by simpa using h⟩
theorem leastTime_walk (l : List Int) (hl : l.length = 26) (hwf : ∀ y ∈ l, (Lit.int .i8 y).wf = true) (a b : Int) (wa : (Lit.int .i16 a).wf = true) (wb : (Lit.int .i8 b).wf = true) (s : ByteArray) (w : World) (hG : GlobM w) :
    Calls Tryd.prog 3 #[.agg (cellsK .i8 l), .agg #[.int .i16 a, .int .i8 b], .string s] w fun e w' => e = .returned (.bool true) ∧ Below w.heap.size w w' := by
  have hw := wf8 hwf
  have ha : -32768 ≤ a ∧ a ≤ 32767 := by simpa [Lit.wf, IntKind.min, IntKind.max, IntKind.signed, IntKind.bits] using wa
  have hb' : -128 ≤ b ∧ b ≤ 127 := by simpa [Lit.wf, IntKind.min, IntKind.max, IntKind.signed, IntKind.bits] using wb
  have h8 : rng8 l = true := List.all_eq_true.2 fun y hy => inB_iff.2 (hw y hy)
  have hc : rngC a b = true := by unfold rngC; rw [inB_iff.2 ha, inB_iff.2 hb']; rfl
  clear wa wb hwf hw
  obtain ⟨a0_0, l0, rfl, hl0⟩ := len_cons hl
  obtain ⟨a0_1, l1, rfl, hl1⟩ := len_cons hl0
  obtain ⟨a0_2, l2, rfl, hl2⟩ := len_cons hl1
  obtain ⟨a0_3, l3, rfl, hl3⟩ := len_cons hl2
  obtain ⟨a0_4, l4, rfl, hl4⟩ := len_cons hl3
  obtain ⟨a0_5, l5, rfl, hl5⟩ := len_cons hl4
  obtain ⟨a0_6, l6, rfl, hl6⟩ := len_cons hl5
  obtain ⟨a0_7, l7, rfl, hl7⟩ := len_cons hl6
  obtain ⟨a0_8, l8, rfl, hl8⟩ := len_cons hl7
  obtain ⟨a0_9, l9, rfl, hl9⟩ := len_cons hl8
  obtain ⟨a0_10, l10, rfl, hl10⟩ := len_cons hl9
  obtain ⟨a0_11, l11, rfl, hl11⟩ := len_cons hl10
  obtain ⟨a0_12, l12, rfl, hl12⟩ := len_cons hl11
  obtain ⟨a0_13, l13, rfl, hl13⟩ := len_cons hl12
  obtain ⟨a0_14, l14, rfl, hl14⟩ := len_cons hl13
  obtain ⟨a0_15, l15, rfl, hl15⟩ := len_cons hl14
  obtain ⟨a0_16, l16, rfl, hl16⟩ := len_cons hl15
  obtain ⟨a0_17, l17, rfl, hl17⟩ := len_cons hl16
  obtain ⟨a0_18, l18, rfl, hl18⟩ := len_cons hl17
  obtain ⟨a0_19, l19, rfl, hl19⟩ := len_cons hl18
  obtain ⟨a0_20, l20, rfl, hl20⟩ := len_cons hl19
  obtain ⟨a0_21, l21, rfl, hl21⟩ := len_cons hl20
  obtain ⟨a0_22, l22, rfl, hl22⟩ := len_cons hl21
  obtain ⟨a0_23, l23, rfl, hl23⟩ := len_cons hl22
  obtain ⟨a0_24, l24, rfl, hl24⟩ := len_cons hl23
  obtain ⟨a0_25, l25, rfl, hl25⟩ := len_cons hl24
  obtain rfl := List.eq_nil_of_length_eq_zero hl25
  exact laws_FnExactLeastTime.calls 5000 a0_0 a0_1 a0_2 a0_3 a0_4 a0_5 a0_6 a0_7 a0_8 a0_9 a0_10 a0_11 a0_12 a0_13 a0_14 a0_15 a0_16 a0_17 a0_18 a0_19 a0_20 a0_21 a0_22 a0_23 a0_24 a0_25 a b s true w hG (leastTime_ok a0_0 a0_1 a0_2 a0_3 a0_4 a0_5 a0_6 a0_7 a0_8 a0_9 a0_10 a0_11 a0_12 a0_13 a0_14 a0_15 a0_16 a0_17 a0_18 a0_19 a0_20 a0_21 a0_22 a0_23 a0_24 a0_25 a b s h8 hc)
end Go.Proofs.YtfnhjoemmiepiaaDoor.Pure
