/- Contracts and plain laws of functions of the given program; no conditions beside those in the theorems. -/
import Derived.Test.YtcibhhkpnakkgaaC1LawFnShared
import Derived.Test.YtcibhhkpnakkgaaC2LawFnShared
namespace Go.Proofs.Ytcibhhkpnakkgaa.Ext
end Go.Proofs.Ytcibhhkpnakkgaa.Ext
namespace Go.Proofs.Ytcibhhkpnakkgaa.Q
open Go.Proofs.Ytcibhhkpnakkgaa.Ext
open Go.RowKit Go.Proofs.YtcibhhkpnakkgaaW.PrintWords Go.Proofs.YtcibhhkpnakkgaaW.PrintLast Go.Proofs.YtcibhhkpnakkgaaW.PrintMore
attribute [local go_sem] max2_int min2_int max_two min_two max_three min_three max_four min_four
set_option linter.unusedVariables false
set_option linter.unusedSimpArgs false
def spec_FewestLate.l0 : Nat → List Int → List Int → List (List Int) → List Int → Int → Int → Option (List Int × Int × Int)
  | 0, _, _, _, _, _, _ => none
  | k + 1, x0, x1, x8, x9, x10, x11 => if x11 < (x8.length : Int) then (if 0 ≤ x11 then ((spec_l05Late.f k x0 x1 (rd_L1 x8 x11)).bind fun t265 => (if (t265.length : Int) < x10 then (spec_FewestLate.l0 k x0 x1 x8 (rd_L1 x8 x11) (t265.length : Int) (wrap64 (x11 + 1))) else (spec_FewestLate.l0 k x0 x1 x8 x9 x10 (wrap64 (x11 + 1))))) else (none)) else (some (x9, x10, 0))
def spec_FewestLate.f (k : Nat) (l0 : List Int) (l1 : List Int) : Option (List Int × Int × Int) := (spec_l05Dues.f k l0 l1).bind fun t249 => ((spec_l05Times.f k l0 t249 7).bind fun t250 => (if t250 = 0 then ((spec_l05Orders.f k (l0.length : Int) (([] : List Int))).bind fun t257 => (if 0 < (t257.length : Int) then ((spec_l05Late.f k l0 l1 (rd_L1 t257 0)).bind fun t261 => (spec_FewestLate.l0 k l0 l1 t257 (rd_L1 t257 0) (t261.length : Int) 1)) else (none))) else (some ((([] : List Int)), 0, t250))))
theorem spec_FewestLate.mono_l : ∀ k, (∀ y0 y1 y2 y3 y4 y5, LeO (spec_FewestLate.l0 k y0 y1 y2 y3 y4 y5) (spec_FewestLate.l0 (k + 1) y0 y1 y2 y3 y4 y5))
  | 0 => fun _ _ _ _ _ _ r h => by simp [spec_FewestLate.l0] at h
  | k + 1 => by
    have ih0 := spec_FewestLate.mono_l k
    · intro y0 y1 y2 y3 y4 y5
      unfold spec_FewestLate.l0
      repeat' first
      | (with_reducible exact ih0 _ _ _ _ _ _)
      | (with_reducible exact spec_l05Dues.mono _ _ _)
      | (with_reducible exact spec_l05Late.mono _ _ _ _)
      | (with_reducible exact spec_l05Orders.mono _ _ _)
      | (with_reducible exact spec_l05Times.mono _ _ _ _)
      | (with_reducible exact LeO.refl _)
      | (with_reducible exact LeO.none _)
      | (with_reducible refine LeO.ite ?_ ?_)
      | (with_reducible refine LeO.bind ?_ (fun _ => ?_))
      | exact ih0 _ _ _ _ _ _
      | exact spec_l05Dues.mono _ _ _
      | exact spec_l05Late.mono _ _ _ _
      | exact spec_l05Orders.mono _ _ _
      | exact spec_l05Times.mono _ _ _ _
      | exact LeO.none _
      | refine LeO.ite ?_ ?_
      | refine LeO.bind ?_ (fun _ => ?_)
theorem spec_FewestLate.mono : ∀ a0 a1 k, LeO (spec_FewestLate.f k a0 a1) (spec_FewestLate.f (k + 1) a0 a1) := by
  intro a0 a1 k
  have ih0 := spec_FewestLate.mono_l k
  unfold spec_FewestLate.f
  repeat' first
      | (with_reducible exact ih0 _ _ _ _ _ _)
      | (with_reducible exact spec_l05Dues.mono _ _ _)
      | (with_reducible exact spec_l05Late.mono _ _ _ _)
      | (with_reducible exact spec_l05Orders.mono _ _ _)
      | (with_reducible exact spec_l05Times.mono _ _ _ _)
      | (with_reducible exact LeO.refl _)
      | (with_reducible exact LeO.none _)
      | (with_reducible refine LeO.ite ?_ ?_)
      | (with_reducible refine LeO.bind ?_ (fun _ => ?_))
      | exact ih0 _ _ _ _ _ _
      | exact spec_l05Dues.mono _ _ _
      | exact spec_l05Late.mono _ _ _ _
      | exact spec_l05Orders.mono _ _ _
      | exact spec_l05Times.mono _ _ _ _
      | exact LeO.none _
      | refine LeO.ite ?_ ?_
      | refine LeO.bind ?_ (fun _ => ?_)
set_option maxHeartbeats 8000000 in
set_option maxRecDepth 100000 in
theorem spec_FewestLate.calls (k : Nat) (A0 : Option Addr) (c0 : Nat) (l0 : List Int) (A1 : Option Addr) (c1 : Nat) (l1 : List Int) (r1 : List Int) (r2 : Int) (r3 : Int) (w : World) (hr0 : Kd.C (Kd.int .i64) w A0 l0.length l0) (hc0 : l0.length ≤ c0) (hr1 : Kd.C (Kd.int .i64) w A1 l1.length l1) (hc1 : l1.length ≤ c1) (h : spec_FewestLate.f k l0 l1 = some (r1, r2, r3)) :
    Calls Try.prog 18 #[.slice A0 l0.length c0, .slice A1 l1.length c1] w fun e w' => ∃ v0_ : Value, e = .returned (.tuple #[v0_, .int .i64 r2, .int .i64 r3]) ∧ Kd.V (Kd.int .i64) 2 w' w.heap.size (fun k_ => (w.heap.size ≤ k_)) v0_ r1 ∧ Below w.heap.size w w' := by
  have HR0 := Aside0.mk hr0
  have HC0 := Aside0.mk hc0
  clear hr0 hc0
  have HR1 := Aside0.mk hr1
  have HC1 := Aside0.mk hc1
  clear hr1 hc1
  have HB := Aside0.mk (Below.refl w.heap.size w)
  have H : ((spec_l05Dues.f k l0 l1).bind fun t249 => ((spec_l05Times.f k l0 t249 7).bind fun t250 => (if t250 = 0 then ((spec_l05Orders.f k (l0.length : Int) (([] : List Int))).bind fun t257 => (if 0 < (t257.length : Int) then ((spec_l05Late.f k l0 l1 (rd_L1 t257 0)).bind fun t261 => (spec_FewestLate.l0 k l0 l1 t257 (rd_L1 t257 0) (t261.length : Int) 1)) else (none))) else (some ((([] : List Int)), 0, t250))))) = some (r1, r2, r3) := h
  clear h
  replace H := Option.bind_eq_some_iff.mp H
  obtain ⟨t249, A30, H⟩ := H
  replace H : ((spec_l05Times.f k l0 t249 7).bind fun t250 => (if t250 = 0 then ((spec_l05Orders.f k (l0.length : Int) (([] : List Int))).bind fun t257 => (if 0 < (t257.length : Int) then ((spec_l05Late.f k l0 l1 (rd_L1 t257 0)).bind fun t261 => (spec_FewestLate.l0 k l0 l1 t257 (rd_L1 t257 0) (t261.length : Int) 1)) else (none))) else (some ((([] : List Int)), 0, t250)))) = some (r1, r2, r3) := H
  have A3 := Aside0.mk A30
  clear A30
  replace H := Option.bind_eq_some_iff.mp H
  obtain ⟨t250, A40, H⟩ := H
  replace H : (if t250 = 0 then ((spec_l05Orders.f k (l0.length : Int) (([] : List Int))).bind fun t257 => (if 0 < (t257.length : Int) then ((spec_l05Late.f k l0 l1 (rd_L1 t257 0)).bind fun t261 => (spec_FewestLate.l0 k l0 l1 t257 (rd_L1 t257 0) (t261.length : Int) 1)) else (none))) else (some ((([] : List Int)), 0, t250))) = some (r1, r2, r3) := H
  have A4 := Aside0.mk A40
  clear A40
  by_cases c5 : t250 = 0
  · rw [if_pos c5] at H
    have c5b0 : (t250 == 0) = true := beq_iff_eq.mpr c5
    have c5b1 : (t250 != 0) = false := bne_eq_false_iff_eq.mpr c5
    clear c5
    obtain ⟨y254, hy254⟩ : ∃ y_ : List Int, y_ = (([] : List Int)) := ⟨_, rfl⟩
    replace H : ((spec_l05Orders.f k (l0.length : Int) y254).bind fun t257 => (if 0 < (t257.length : Int) then ((spec_l05Late.f k l0 l1 (rd_L1 t257 0)).bind fun t261 => (spec_FewestLate.l0 k l0 l1 t257 (rd_L1 t257 0) (t261.length : Int) 1)) else (none))) = some (r1, r2, r3) := by first | (rw [hy254]; with_reducible exact H) | (have H2_ := (Option.bind_some _ _).symm.trans H; rw [hy254]; with_reducible exact H2_) | (have H2_ := (Option.bind_some _ _).symm.trans H; with_reducible exact H2_) | with_reducible exact H | (rw [hy254]; exact H) | exact H
    have Ny254 := Aside0.mk hy254
    clear hy254
    replace H := Option.bind_eq_some_iff.mp H
    obtain ⟨t257, A60, H⟩ := H
    replace H : (if 0 < (t257.length : Int) then ((spec_l05Late.f k l0 l1 (rd_L1 t257 0)).bind fun t261 => (spec_FewestLate.l0 k l0 l1 t257 (rd_L1 t257 0) (t261.length : Int) 1)) else (none)) = some (r1, r2, r3) := H
    have A6 := Aside0.mk A60
    clear A60
    by_cases c7 : 0 < (t257.length : Int)
    · rw [if_pos c7] at H
      have c7b0 : decide (0 < (t257.length : Int)) = true := decide_eq_true c7
      have c7b1 : decide (0 < t257.length) = true := decide_eq_true (by omega)
      clear c7
      replace H := Option.bind_eq_some_iff.mp H
      obtain ⟨t261, A80, H⟩ := H
      replace H : (spec_FewestLate.l0 k l0 l1 t257 (rd_L1 t257 0) (t261.length : Int) 1) = some (r1, r2, r3) := H
      have A8 := Aside0.mk A80
      clear A80
      have H' := Aside0.mk H
      clear H
      go_enter Try.func18, Try.ntmps18
      go_wp2_with (first | ((with_reducible refine gate_callee (f := 39) rfl ?_); refine goesL_ (some 16) rfl rfl Try.func39 (by kernel_rfl) rfl #[.slice A0 l0.length c0, .slice A1 l1.length c1] rfl (by (try simp only [List.map_toArray, List.map_cons, List.map_nil]); first | done | rfl | (simp only [List.length_drop, List.length_take]; rfl)) ?_; (with_reducible refine (spec_l05Dues.calls k _ _ l0 _ _ l1 t249 _ ?side1 ?side2 ?side3 ?side4 A3.out).mono ?_); (case side1 => repeat (first | exact HR0.out | (with_reducible refine Kd.C_alloc ?_ _) | (with_reducible refine Kd.C_drewN ?_ _) | (with_reducible refine Kd.C_drew ?_))); (case side2 => exact HC0.out); (case side3 => repeat (first | exact HR1.out | (with_reducible refine Kd.C_alloc ?_ _) | (with_reducible refine Kd.C_drewN ?_ _) | (with_reducible refine Kd.C_drew ?_))); (case side4 => exact HC1.out); rintro e w' ⟨rfl, ⟨nd, rfl⟩⟩; refine ⟨_, rfl, ?_⟩) | ((with_reducible refine gate_callee (f := 25) rfl ?_); refine goesL_ (some 17) rfl rfl Try.func25 (by kernel_rfl) rfl #[.slice A0 l0.length c0, .bool t249, .int .i64 7] rfl (by (try simp only [List.map_toArray, List.map_cons, List.map_nil]); first | done | rfl | (simp only [List.length_drop, List.length_take]; rfl)) ?_; (with_reducible refine (spec_l05Times.calls k _ _ l0 t249 7 t250 _ ?side1 ?side2 A4.out).mono ?_); (case side1 => repeat (first | exact HR0.out | (with_reducible refine Kd.C_alloc ?_ _) | (with_reducible refine Kd.C_drewN ?_ _) | (with_reducible refine Kd.C_drew ?_))); (case side2 => exact HC0.out); rintro e w' ⟨rfl, ⟨nd, rfl⟩⟩; refine ⟨_, rfl, ?_⟩) | ((with_reducible refine gate_dst (N := 24) rfl ?_); refine Kd.R_lit (Kd.int .i64) _ 2 ?hg (N := 24) ?hd (xs := ([] : List Int)) (inner := []) (ok := fun _ => True) (okp := fun _ => True) ?hr ?hp (fun _ hk => hk) trivial (Below.refl _ _) (Nat.le_refl _) (by simp) ?_; (case hd => rfl); (case hg => rfl); (case hr => first | (go_simp; done) | (go_simp; rfl)); (case hp => exact (Reps.none _ _)); intro v255 w9 ho10 hb hg_ hnew_; clear hg_ hnew_; (first | rw [← Ny254.out] at ho10 | (simp only [Int.reduceToNat] at ho10; rw [← Ny254.out] at ho10)); have n0_ := Aside0.mk (Kd.R_lower (Kd.R_newM (M := fun k_ => (w.heap.size ≤ k_)) ho10 (below_size (by repeat (first | (with_reducible first | exact HB.out | apply below_alloc | apply pw_below_drewN | apply below_drew1) | exact HB.out))) (fun k_ h_ => h_)) (below_size (by repeat (first | (with_reducible first | exact HB.out | apply below_alloc | apply pw_below_drewN | apply below_drew1) | exact HB.out)))); have n1_ := Aside0.mk (below_step (by repeat (first | (with_reducible first | exact HB.out | apply below_alloc | apply pw_below_drewN | apply below_drew1) | exact HB.out)) hb); clear HB; have HO256 := n0_; have HB := n1_; clear n0_ n1_; clear hb ho10; obtain ⟨Ao11, co11, eo11⟩ := Kd.R_slice HO256.out; subst eo11) | ((with_reducible refine gate_callee (f := 45) rfl ?_); refine goesL_ (some 25) rfl rfl Try.func45 (by kernel_rfl) rfl #[.int .i64 (l0.length : Int), .slice Ao11 y254.length co11] rfl (by (try simp only [List.map_toArray, List.map_cons, List.map_nil]); first | done | rfl | (simp only [List.length_drop, List.length_take]; rfl)) ?_; (with_reducible refine (spec_l05Orders.calls k (l0.length : Int) _ _ y254 t257 _ ?side1 ?side2 A6.out).mono ?_); (case side1 => repeat (first | exact (Kd.R_reads' HO256.out).2.2 | (with_reducible refine Kd.C_alloc ?_ _) | (with_reducible refine Kd.C_drewN ?_ _) | (with_reducible refine Kd.C_drew ?_))); (case side2 => exact (Kd.R_reads' HO256.out).2.1); rintro e w12 ⟨v258, rfl, ho0, hb⟩; refine ⟨_, rfl, ?_⟩; have n0_ := Aside0.mk (Kd.R_below (by (with_reducible repeat (first | apply Kd.R_alloc | apply Kd.R_drewN | apply Kd.R_drew)); exact HO256.out) hb); have n1_ := Aside0.mk (Kd.N_lower (Kd.N_mono (ok' := fun k_ => (w.heap.size ≤ k_) ∧ some k_ ≠ (.slice Ao11 y254.length co11 : Value).ownBlock) ho0 (fun k_ hk_ => ⟨(Nat.le_trans (below_size (by repeat (first | (with_reducible first | exact HB.out | apply below_alloc | apply pw_below_drewN | apply below_drew1) | exact HB.out))) hk_), (Kd.fresh' (Kd.R_lt (by (with_reducible repeat (first | apply Kd.R_alloc | apply Kd.R_drewN | apply Kd.R_drew)); exact HO256.out)) k_ hk_)⟩)) (below_size (by repeat (first | (with_reducible first | exact HB.out | apply below_alloc | apply pw_below_drewN | apply below_drew1) | exact HB.out)))); have n2_ := Aside0.mk (below_step (by repeat (first | (with_reducible first | exact HB.out | apply below_alloc | apply pw_below_drewN | apply below_drew1) | exact HB.out)) hb); clear HO256; clear HB; have HO256 := n0_; have HO259 := n1_; have HB := n2_; clear n0_ n1_ n2_; (try clear hb); (try clear hb2); (try clear hk); (try clear hi); (try clear ho0); obtain ⟨Ao13, co13, eo13⟩ := Kd.N_slice HO259.out; subst eo13; have p260 : 0 ≤ (0 : Int) := (by omega); have q260 : 0 < (t257.length : Int) := of_decide_eq_true (by first | (with_reducible assumption) | assumption); obtain ⟨ad260, A260_0, c260_0, e260, hx260_0, hl260_0, hi260_0⟩ := at_L1 (Kd.N_reads' HO259.out).2.2 0 p260 q260; cases e260; obtain ⟨ce260, hce260, hMe260, hcc260⟩ := Kd.N_get HO259.out [] 0 p260 (by first | exact q260 | exact of_decide_eq_true (by first | (with_reducible assumption) | assumption) | (have e_ := (Kd.N_reads' HO259.out).1; omega)); obtain ⟨ua260_0, uc260_0, rfl, ul260_0, ge260_0⟩ := Kd.FK_slice_open hMe260; have hv260_0 := hcc260 0 _ rfl; rw [Nat.add_zero, show ((Kd.slice 2 (Kd.int .i64))).sz = 1 from rfl, Nat.mul_one] at hv260_0; replace hv260_0 := Option.some.inj (hv260_0.symm.trans hx260_0); injection hv260_0 with hva_ hvn_ hvc_; rw [hva_] at ge260_0; rw [hvc_] at ul260_0; have HL260_0 := Aside0.mk (show Kd.V (Kd.int .i64) 2 _ w.heap.size _ _ (rd_L1 t257 0) from Kd.V_mk ul260_0 ge260_0); clear hva_ hvn_ hvc_ ge260_0 ul260_0; clear hcc260 hce260; have qi260 : (0 < t257.length) = True := eq_true (by omega); (try rw [show ((0 : Int)).toNat = 0 from rfl] at hx260_0); (try rw [Addr.add_zero'] at hx260_0); have HR260_0 := Aside0.mk hi260_0; have HC260_0 := Aside0.mk hl260_0; clear hi260_0 hl260_0; replace p260 := eq_true p260; replace q260 := eq_true q260) | ((with_reducible refine gate_callee (f := 40) rfl ?_); refine goesL_ (some 32) rfl rfl Try.func40 (by kernel_rfl) rfl #[.slice A0 l0.length c0, .slice A1 l1.length c1, .slice A260_0 (rd_L1 t257 0).length c260_0] rfl (by (try simp only [List.map_toArray, List.map_cons, List.map_nil]); first | done | rfl | (simp only [List.length_drop, List.length_take]; rfl)) ?_; (with_reducible refine (spec_l05Late.calls k _ _ l0 _ _ l1 _ _ (rd_L1 t257 0) t261 _ ?side1 ?side2 ?side3 ?side4 ?side5 ?side6 A8.out).mono ?_); (case side1 => repeat (first | exact (Kd.C_below HR0.out HB.out) | (with_reducible refine Kd.C_alloc ?_ _) | (with_reducible refine Kd.C_drewN ?_ _) | (with_reducible refine Kd.C_drew ?_))); (case side2 => exact HC0.out); (case side3 => repeat (first | exact (Kd.C_below HR1.out HB.out) | (with_reducible refine Kd.C_alloc ?_ _) | (with_reducible refine Kd.C_drewN ?_ _) | (with_reducible refine Kd.C_drew ?_))); (case side4 => exact HC1.out); (case side5 => repeat (first | exact (by repeat (first | (with_reducible exact HR260_0.out) | (with_reducible refine Kd.C_alloc ?_ _) | (with_reducible refine Kd.C_drewN ?_ _) | (with_reducible refine Kd.C_drew ?_) | exact HR260_0.out)) | (with_reducible refine Kd.C_alloc ?_ _) | (with_reducible refine Kd.C_drewN ?_ _) | (with_reducible refine Kd.C_drew ?_))); (case side6 => exact HC260_0.out); rintro e w14 ⟨v262, rfl, ho0, hb⟩; refine ⟨_, rfl, ?_⟩; have n0_ := Aside0.mk (Kd.R_elder' (by (with_reducible repeat (first | apply Kd.R_alloc | apply Kd.R_drewN | apply Kd.R_drew)); exact HO256.out) (Kd.R_base ho0) hb); have n1_ := Aside0.mk (Kd.N_elder' (by (with_reducible repeat (first | apply Kd.N_alloc | apply Kd.N_drewN | apply Kd.N_drew)); exact HO259.out) (Kd.R_base ho0) hb); have n2_ := Aside0.mk (Kd.V_elder' (by (with_reducible repeat (first | apply Kd.V_alloc | apply Kd.V_drewN | apply Kd.V_drew)); exact HL260_0.out) (Kd.R_base ho0) hb); have n3_ := Aside0.mk (Kd.R_lower (Kd.R_new' (Kd.R_newM (M := fun k_ => (w.heap.size ≤ k_)) ho0 (below_size (by repeat (first | (with_reducible first | exact HB.out | apply below_alloc | apply pw_below_drewN | apply below_drew1) | exact HB.out))) (fun k_ h_ => h_)) (Kd.R_lt (by (with_reducible repeat (first | apply Kd.R_alloc | apply Kd.R_drewN | apply Kd.R_drew)); exact HO256.out))) (below_size (by repeat (first | (with_reducible first | exact HB.out | apply below_alloc | apply pw_below_drewN | apply below_drew1) | exact HB.out)))); have n4_ := Aside0.mk (Kd.C_below (by repeat (first | (with_reducible exact HR260_0.out) | (with_reducible refine Kd.C_alloc ?_ _) | (with_reducible refine Kd.C_drewN ?_ _) | (with_reducible refine Kd.C_drew ?_) | exact HR260_0.out)) hb); have n5_ := Aside0.mk (below_step (by repeat (first | (with_reducible first | exact HB.out | apply below_alloc | apply pw_below_drewN | apply below_drew1) | exact HB.out)) hb); clear HO256; clear HO259; clear HL260_0; clear HR260_0; clear HB; have HO256 := n0_; have HO259 := n1_; have HL260_0 := n2_; have HO263 := n3_; have HR260_0 := n4_; have HB := n5_; clear n0_ n1_ n2_ n3_ n4_ n5_; (try clear hb); (try clear hb2); (try clear hk); (try clear hi); (try clear ho0); obtain ⟨Ao15, co15, eo15⟩ := Kd.R_slice HO263.out; subst eo15))
      go_loopg [9, 10, 11] k (fun kq v9 v10 v11 w' => ∃ (x9_1 : List Int) (x10_1 : Int) (x11_1 : Int), v10 = .int .i64 x10_1 ∧ v11 = .int .i64 x11_1 ∧ Aside0 (spec_FewestLate.l0 kq l0 l1 t257 x9_1 x10_1 x11_1 = some (r1, r2, r3)) ∧ Aside0 (kq ≤ k) ∧ Aside0 (Kd.N (Kd.slice 2 (Kd.int .i64)) 24 w' w.heap.size (fun k_ => (w.heap.size ≤ k_)) (.slice (some ad260) t257.length co13) t257) ∧ Aside0 (Kd.V (Kd.int .i64) 2 w' w.heap.size (fun k_ => (w.heap.size ≤ k_) ∧ some k_ ≠ ((.slice (some ad260) t257.length co13) : Value).ownBlock) v9 x9_1) ∧ Aside0 (Kd.C (Kd.int .i64) w' A260_0 (rd_L1 t257 0).length (rd_L1 t257 0)) ∧ Aside0 (Below w.heap.size w w'))
      case atStart => exact ⟨(rd_L1 t257 0), ((t261.length : Int)), (1), (by first | rfl | (simp; done) | (simp [*]; done)), (by first | rfl | (simp; done) | (simp [*]; done)), H', ⟨Nat.le_refl _⟩, ⟨by (with_reducible repeat (first | apply Kd.N_alloc | apply Kd.N_drewN | apply Kd.N_drew)); exact Kd.N_mono HO259.out (fun _ hk => hk.1.1)⟩, ⟨by (with_reducible repeat (first | apply Kd.V_alloc | apply Kd.V_drewN | apply Kd.V_drew)); exact Kd.V_mono HL260_0.out (fun _ hk => ⟨hk.1.1.1, hk.1.2⟩)⟩, ⟨by repeat (first | (with_reducible exact HR260_0.out) | (with_reducible refine Kd.C_alloc ?_ _) | (with_reducible refine Kd.C_drewN ?_ _) | (with_reducible refine Kd.C_drew ?_) | exact HR260_0.out)⟩, ⟨by repeat (first | (with_reducible first | exact HB.out | apply below_alloc | apply pw_below_drewN | apply below_drew1) | exact HB.out)⟩⟩
      case round =>
        clear H'
        try clear c1
        try clear c2
        try clear p2
        try clear q2
        try clear hx2
        try clear qi2
        try clear c3
        try clear c4
        try clear c5
        try clear c5b0
        try clear c5b1
        try clear c7
        try clear c7b0
        try clear c7b1
        try clear hx260_0
        try clear p260
        try clear q260
        obtain ⟨x9_1, x10_1, x11_1, rfl, rfl, HA, HK1, HO_8, HO_9, HR260_0, HB⟩ := hrel
        cases gk with
        | zero => exact absurd HA.out (by simp [spec_FewestLate.l0])
        | succ k1 =>
          have H := HA.out
          clear HA
          simp only [spec_FewestLate.l0] at H
          by_cases c16 : x11_1 < (t257.length : Int)
          · rw [if_pos c16] at H
            have c16b0 : decide (x11_1 < (t257.length : Int)) = true := decide_eq_true c16
            clear c16
            by_cases c17 : 0 ≤ x11_1
            · rw [if_pos c17] at H
              have c17b0 : decide (0 ≤ x11_1) = true := decide_eq_true c17
              clear c17
              replace H := Option.bind_eq_some_iff.mp H
              obtain ⟨t265, A180, H⟩ := H
              replace H : (if (t265.length : Int) < x10_1 then (spec_FewestLate.l0 k1 l0 l1 t257 (rd_L1 t257 x11_1) (t265.length : Int) (wrap64 (x11_1 + 1))) else (spec_FewestLate.l0 k1 l0 l1 t257 x9_1 x10_1 (wrap64 (x11_1 + 1)))) = some (r1, r2, r3) := H
              have A18 := Aside0.mk A180
              clear A180
              by_cases c19 : (t265.length : Int) < x10_1
              · rw [if_pos c19] at H
                have c19b0 : decide ((t265.length : Int) < x10_1) = true := decide_eq_true c19
                clear c19
                have H' := Aside0.mk H
                clear H
                have p264 : 0 ≤ (x11_1 : Int) := of_decide_eq_true (by first | (with_reducible assumption) | assumption)
                have q264 : x11_1 < (t257.length : Int) := of_decide_eq_true (by first | (with_reducible assumption) | assumption)
                obtain ⟨ad264, A264_0, c264_0, e264, hx264_0, hl264_0, hi264_0⟩ := at_L1 (Kd.N_reads' HO_8.out).2.2 x11_1 p264 q264
                obtain rfl : ad260 = ad264 := (by injection e264)
                obtain ⟨ce264, hce264, hMe264, hcc264⟩ := Kd.N_get HO_8.out [] x11_1 p264 (by first | exact q264 | exact of_decide_eq_true (by first | (with_reducible assumption) | assumption) | (have e_ := (Kd.N_reads' HO_8.out).1; omega))
                obtain ⟨ua264_0, uc264_0, rfl, ul264_0, ge264_0⟩ := Kd.FK_slice_open hMe264
                have hv264_0 := hcc264 0 _ rfl
                rw [Nat.add_zero, show ((Kd.slice 2 (Kd.int .i64))).sz = 1 from rfl, Nat.mul_one] at hv264_0
                replace hv264_0 := Option.some.inj (hv264_0.symm.trans hx264_0)
                injection hv264_0 with hva_ hvn_ hvc_
                rw [hva_] at ge264_0
                rw [hvc_] at ul264_0
                have HL264_0 := Aside0.mk (show Kd.V (Kd.int .i64) 2 _ w.heap.size _ _ (rd_L1 t257 x11_1) from Kd.V_mk ul264_0 ge264_0)
                clear hva_ hvn_ hvc_ ge264_0 ul264_0
                clear hcc264 hce264
                have HR264_0 := Aside0.mk hi264_0
                have HC264_0 := Aside0.mk hl264_0
                clear hi264_0 hl264_0
                replace p264 := eq_true p264
                replace q264 := eq_true q264
                go_wp2_with (first | ((with_reducible refine gate_callee (f := 40) rfl ?_); refine goesL_ (some 46) rfl rfl Try.func40 (by kernel_rfl) rfl #[.slice A0 l0.length c0, .slice A1 l1.length c1, .slice A264_0 (rd_L1 t257 x11_1).length c264_0] rfl (by (try simp only [List.map_toArray, List.map_cons, List.map_nil]); first | done | rfl | (simp only [List.length_drop, List.length_take]; rfl)) ?_; (with_reducible refine (spec_l05Late.calls k1 _ _ l0 _ _ l1 _ _ (rd_L1 t257 x11_1) t265 _ ?side1 ?side2 ?side3 ?side4 ?side5 ?side6 A18.out).mono ?_); (case side1 => repeat (first | exact (Kd.C_below HR0.out HB.out) | (with_reducible refine Kd.C_alloc ?_ _) | (with_reducible refine Kd.C_drewN ?_ _) | (with_reducible refine Kd.C_drew ?_))); (case side2 => exact HC0.out); (case side3 => repeat (first | exact (Kd.C_below HR1.out HB.out) | (with_reducible refine Kd.C_alloc ?_ _) | (with_reducible refine Kd.C_drewN ?_ _) | (with_reducible refine Kd.C_drew ?_))); (case side4 => exact HC1.out); (case side5 => repeat (first | exact (by repeat (first | (with_reducible exact HR264_0.out) | (with_reducible refine Kd.C_alloc ?_ _) | (with_reducible refine Kd.C_drewN ?_ _) | (with_reducible refine Kd.C_drew ?_) | exact HR264_0.out)) | (with_reducible refine Kd.C_alloc ?_ _) | (with_reducible refine Kd.C_drewN ?_ _) | (with_reducible refine Kd.C_drew ?_))); (case side6 => exact HC264_0.out); rintro e w20 ⟨v266, rfl, ho0, hb⟩; refine ⟨_, rfl, ?_⟩; have n0_ := Aside0.mk (Kd.N_elder' (by (with_reducible repeat (first | apply Kd.N_alloc | apply Kd.N_drewN | apply Kd.N_drew)); exact HO_8.out) (Kd.R_base ho0) hb); have n1_ := Aside0.mk (Kd.V_elder' (by (with_reducible repeat (first | apply Kd.V_alloc | apply Kd.V_drewN | apply Kd.V_drew)); exact HO_9.out) (Kd.R_base ho0) hb); have n2_ := Aside0.mk (Kd.V_elder' (by (with_reducible repeat (first | apply Kd.V_alloc | apply Kd.V_drewN | apply Kd.V_drew)); exact HL264_0.out) (Kd.R_base ho0) hb); have n3_ := Aside0.mk (Kd.R_lower (Kd.R_newM (M := fun k_ => (w.heap.size ≤ k_)) ho0 (below_size (by repeat (first | (with_reducible first | exact HB.out | apply below_alloc | apply pw_below_drewN | apply below_drew1) | exact HB.out))) (fun k_ h_ => h_)) (below_size (by repeat (first | (with_reducible first | exact HB.out | apply below_alloc | apply pw_below_drewN | apply below_drew1) | exact HB.out)))); have n4_ := Aside0.mk (Kd.C_below (by repeat (first | (with_reducible exact HR260_0.out) | (with_reducible refine Kd.C_alloc ?_ _) | (with_reducible refine Kd.C_drewN ?_ _) | (with_reducible refine Kd.C_drew ?_) | exact HR260_0.out)) hb); have n5_ := Aside0.mk (Kd.C_below (by repeat (first | (with_reducible exact HR264_0.out) | (with_reducible refine Kd.C_alloc ?_ _) | (with_reducible refine Kd.C_drewN ?_ _) | (with_reducible refine Kd.C_drew ?_) | exact HR264_0.out)) hb); have n6_ := Aside0.mk (below_step (by repeat (first | (with_reducible first | exact HB.out | apply below_alloc | apply pw_below_drewN | apply below_drew1) | exact HB.out)) hb); clear HO_8; clear HO_9; clear HL264_0; clear HR260_0; clear HR264_0; clear HB; have HO_8 := n0_; have HO_9 := n1_; have HL264_0 := n2_; have HO267 := n3_; have HR260_0 := n4_; have HR264_0 := n5_; have HB := n6_; clear n0_ n1_ n2_ n3_ n4_ n5_ n6_; (try clear hb); (try clear hb2); (try clear hk); (try clear hi); (try clear ho0); obtain ⟨Ao21, co21, eo21⟩ := Kd.R_slice HO267.out; subst eo21; have p268 : 0 ≤ (x11_1 : Int) := of_decide_eq_true (by first | (with_reducible assumption) | assumption); have q268 : x11_1 < (t257.length : Int) := of_decide_eq_true (by first | (with_reducible assumption) | assumption); obtain ⟨ad268, A268_0, c268_0, e268, hx268_0, hl268_0, hi268_0⟩ := at_L1 (Kd.N_reads' HO_8.out).2.2 x11_1 p268 q268; obtain rfl : ad260 = ad268 := (by injection e268); obtain ⟨ce268, hce268, hMe268, hcc268⟩ := Kd.N_get HO_8.out [] x11_1 p268 (by first | exact q268 | exact of_decide_eq_true (by first | (with_reducible assumption) | assumption) | (have e_ := (Kd.N_reads' HO_8.out).1; omega)); obtain ⟨ua268_0, uc268_0, rfl, ul268_0, ge268_0⟩ := Kd.FK_slice_open hMe268; have hv268_0 := hcc268 0 _ rfl; rw [Nat.add_zero, show ((Kd.slice 2 (Kd.int .i64))).sz = 1 from rfl, Nat.mul_one] at hv268_0; replace hv268_0 := Option.some.inj (hv268_0.symm.trans hx268_0); injection hv268_0 with hva_ hvn_ hvc_; rw [hva_] at ge268_0; rw [hvc_] at ul268_0; have HL268_0 := Aside0.mk (show Kd.V (Kd.int .i64) 2 _ w.heap.size _ _ (rd_L1 t257 x11_1) from Kd.V_mk ul268_0 ge268_0); clear hva_ hvn_ hvc_ ge268_0 ul268_0; clear hcc268 hce268; have HR268_0 := Aside0.mk hi268_0; have HC268_0 := Aside0.mk hl268_0; clear hi268_0 hl268_0; replace p268 := eq_true p268; replace q268 := eq_true q268))
                go_roundg k1
                case measure => have := HK1.out; omega
                case rel => exact ⟨(rd_L1 t257 x11_1), ((t265.length : Int)), (wrap64 (x11_1 + 1)), (by first | rfl | (simp; done) | (simp [*]; done)), (by first | rfl | (simp; done) | (simp [*]; done)), H', ⟨by have := HK1.out; omega⟩, ⟨by (with_reducible repeat (first | apply Kd.N_alloc | apply Kd.N_drewN | apply Kd.N_drew)); exact Kd.N_mono HO_8.out (fun _ hk => hk.1)⟩, ⟨by (with_reducible repeat (first | apply Kd.V_alloc | apply Kd.V_drewN | apply Kd.V_drew)); exact Kd.V_mono HL268_0.out (fun _ hk => ⟨hk.1.1, hk.2⟩)⟩, ⟨by repeat (first | (with_reducible exact HR260_0.out) | (with_reducible refine Kd.C_alloc ?_ _) | (with_reducible refine Kd.C_drewN ?_ _) | (with_reducible refine Kd.C_drew ?_) | exact HR260_0.out)⟩, ⟨by repeat (first | (with_reducible first | exact HB.out | apply below_alloc | apply pw_below_drewN | apply below_drew1) | exact HB.out)⟩⟩
              · rw [if_neg c19] at H
                have c19b0 : decide ((t265.length : Int) < x10_1) = false := decide_eq_false c19
                clear c19
                have H' := Aside0.mk H
                clear H
                have p264 : 0 ≤ (x11_1 : Int) := of_decide_eq_true (by first | (with_reducible assumption) | assumption)
                have q264 : x11_1 < (t257.length : Int) := of_decide_eq_true (by first | (with_reducible assumption) | assumption)
                obtain ⟨ad264, A264_0, c264_0, e264, hx264_0, hl264_0, hi264_0⟩ := at_L1 (Kd.N_reads' HO_8.out).2.2 x11_1 p264 q264
                obtain rfl : ad260 = ad264 := (by injection e264)
                obtain ⟨ce264, hce264, hMe264, hcc264⟩ := Kd.N_get HO_8.out [] x11_1 p264 (by first | exact q264 | exact of_decide_eq_true (by first | (with_reducible assumption) | assumption) | (have e_ := (Kd.N_reads' HO_8.out).1; omega))
                obtain ⟨ua264_0, uc264_0, rfl, ul264_0, ge264_0⟩ := Kd.FK_slice_open hMe264
                have hv264_0 := hcc264 0 _ rfl
                rw [Nat.add_zero, show ((Kd.slice 2 (Kd.int .i64))).sz = 1 from rfl, Nat.mul_one] at hv264_0
                replace hv264_0 := Option.some.inj (hv264_0.symm.trans hx264_0)
                injection hv264_0 with hva_ hvn_ hvc_
                rw [hva_] at ge264_0
                rw [hvc_] at ul264_0
                have HL264_0 := Aside0.mk (show Kd.V (Kd.int .i64) 2 _ w.heap.size _ _ (rd_L1 t257 x11_1) from Kd.V_mk ul264_0 ge264_0)
                clear hva_ hvn_ hvc_ ge264_0 ul264_0
                clear hcc264 hce264
                have HR264_0 := Aside0.mk hi264_0
                have HC264_0 := Aside0.mk hl264_0
                clear hi264_0 hl264_0
                replace p264 := eq_true p264
                replace q264 := eq_true q264
                go_wp2_with (first | ((with_reducible refine gate_callee (f := 40) rfl ?_); refine goesL_ (some 46) rfl rfl Try.func40 (by kernel_rfl) rfl #[.slice A0 l0.length c0, .slice A1 l1.length c1, .slice A264_0 (rd_L1 t257 x11_1).length c264_0] rfl (by (try simp only [List.map_toArray, List.map_cons, List.map_nil]); first | done | rfl | (simp only [List.length_drop, List.length_take]; rfl)) ?_; (with_reducible refine (spec_l05Late.calls k1 _ _ l0 _ _ l1 _ _ (rd_L1 t257 x11_1) t265 _ ?side1 ?side2 ?side3 ?side4 ?side5 ?side6 A18.out).mono ?_); (case side1 => repeat (first | exact (Kd.C_below HR0.out HB.out) | (with_reducible refine Kd.C_alloc ?_ _) | (with_reducible refine Kd.C_drewN ?_ _) | (with_reducible refine Kd.C_drew ?_))); (case side2 => exact HC0.out); (case side3 => repeat (first | exact (Kd.C_below HR1.out HB.out) | (with_reducible refine Kd.C_alloc ?_ _) | (with_reducible refine Kd.C_drewN ?_ _) | (with_reducible refine Kd.C_drew ?_))); (case side4 => exact HC1.out); (case side5 => repeat (first | exact (by repeat (first | (with_reducible exact HR264_0.out) | (with_reducible refine Kd.C_alloc ?_ _) | (with_reducible refine Kd.C_drewN ?_ _) | (with_reducible refine Kd.C_drew ?_) | exact HR264_0.out)) | (with_reducible refine Kd.C_alloc ?_ _) | (with_reducible refine Kd.C_drewN ?_ _) | (with_reducible refine Kd.C_drew ?_))); (case side6 => exact HC264_0.out); rintro e w22 ⟨v266, rfl, ho0, hb⟩; refine ⟨_, rfl, ?_⟩; have n0_ := Aside0.mk (Kd.N_elder' (by (with_reducible repeat (first | apply Kd.N_alloc | apply Kd.N_drewN | apply Kd.N_drew)); exact HO_8.out) (Kd.R_base ho0) hb); have n1_ := Aside0.mk (Kd.V_elder' (by (with_reducible repeat (first | apply Kd.V_alloc | apply Kd.V_drewN | apply Kd.V_drew)); exact HO_9.out) (Kd.R_base ho0) hb); have n2_ := Aside0.mk (Kd.V_elder' (by (with_reducible repeat (first | apply Kd.V_alloc | apply Kd.V_drewN | apply Kd.V_drew)); exact HL264_0.out) (Kd.R_base ho0) hb); have n3_ := Aside0.mk (Kd.R_lower (Kd.R_newM (M := fun k_ => (w.heap.size ≤ k_)) ho0 (below_size (by repeat (first | (with_reducible first | exact HB.out | apply below_alloc | apply pw_below_drewN | apply below_drew1) | exact HB.out))) (fun k_ h_ => h_)) (below_size (by repeat (first | (with_reducible first | exact HB.out | apply below_alloc | apply pw_below_drewN | apply below_drew1) | exact HB.out)))); have n4_ := Aside0.mk (Kd.C_below (by repeat (first | (with_reducible exact HR260_0.out) | (with_reducible refine Kd.C_alloc ?_ _) | (with_reducible refine Kd.C_drewN ?_ _) | (with_reducible refine Kd.C_drew ?_) | exact HR260_0.out)) hb); have n5_ := Aside0.mk (Kd.C_below (by repeat (first | (with_reducible exact HR264_0.out) | (with_reducible refine Kd.C_alloc ?_ _) | (with_reducible refine Kd.C_drewN ?_ _) | (with_reducible refine Kd.C_drew ?_) | exact HR264_0.out)) hb); have n6_ := Aside0.mk (below_step (by repeat (first | (with_reducible first | exact HB.out | apply below_alloc | apply pw_below_drewN | apply below_drew1) | exact HB.out)) hb); clear HO_8; clear HO_9; clear HL264_0; clear HR260_0; clear HR264_0; clear HB; have HO_8 := n0_; have HO_9 := n1_; have HL264_0 := n2_; have HO267 := n3_; have HR260_0 := n4_; have HR264_0 := n5_; have HB := n6_; clear n0_ n1_ n2_ n3_ n4_ n5_ n6_; (try clear hb); (try clear hb2); (try clear hk); (try clear hi); (try clear ho0); obtain ⟨Ao23, co23, eo23⟩ := Kd.R_slice HO267.out; subst eo23))
                go_roundg k1
                case measure => have := HK1.out; omega
                case rel => exact ⟨(x9_1), (x10_1), (wrap64 (x11_1 + 1)), (by first | rfl | (simp; done) | (simp [*]; done)), (by first | rfl | (simp; done) | (simp [*]; done)), H', ⟨by have := HK1.out; omega⟩, ⟨by (with_reducible repeat (first | apply Kd.N_alloc | apply Kd.N_drewN | apply Kd.N_drew)); exact Kd.N_mono HO_8.out (fun _ hk => hk.1)⟩, ⟨by (with_reducible repeat (first | apply Kd.V_alloc | apply Kd.V_drewN | apply Kd.V_drew)); exact Kd.V_mono HO_9.out (fun _ hk => ⟨hk.1.1, hk.1.2⟩)⟩, ⟨by repeat (first | (with_reducible exact HR260_0.out) | (with_reducible refine Kd.C_alloc ?_ _) | (with_reducible refine Kd.C_drewN ?_ _) | (with_reducible refine Kd.C_drew ?_) | exact HR260_0.out)⟩, ⟨by repeat (first | (with_reducible first | exact HB.out | apply below_alloc | apply pw_below_drewN | apply below_drew1) | exact HB.out)⟩⟩
            · rw [if_neg c17] at H
              exact absurd H (by simp)
          · rw [if_neg c16] at H
            have c16b0 : decide (x11_1 < (t257.length : Int)) = false := decide_eq_false c16
            clear c16
            simp only [Option.some.injEq, Prod.mk.injEq] at H
            obtain ⟨rfl, rfl, rfl⟩ := H
            go_wp2
            go_ret3
            exact ⟨_, by first | rfl | (simp [errW_none, errW_some] <;> rfl) | (simp [*, errW_none, errW_some] <;> rfl), by (with_reducible repeat (first | apply Kd.V_alloc | apply Kd.V_drewN | apply Kd.V_drew)); exact Kd.V_mono HO_9.out (fun _ hk => hk.1), by repeat (first | (with_reducible first | exact HB.out | apply below_alloc | apply pw_below_drewN | apply below_drew1) | exact HB.out)⟩
    · rw [if_neg c7] at H
      exact absurd H (by simp)
  · rw [if_neg c5] at H
    have c5b0 : (t250 == 0) = false := beq_eq_false_iff_ne.mpr c5
    have c5b1 : (t250 != 0) = true := bne_iff_ne.mpr c5
    obtain ⟨y251, hy251⟩ : ∃ y_ : List Int, y_ = (([] : List Int)) := ⟨_, rfl⟩
    replace H : (some (y251, 0, t250)) = some (r1, r2, r3) := by first | (rw [hy251]; with_reducible exact H) | (have H2_ := (Option.bind_some _ _).symm.trans H; rw [hy251]; with_reducible exact H2_) | (have H2_ := (Option.bind_some _ _).symm.trans H; with_reducible exact H2_) | with_reducible exact H | (rw [hy251]; exact H) | exact H
    have Ny251 := Aside0.mk hy251
    clear hy251
    simp only [Option.some.injEq, Prod.mk.injEq] at H
    obtain ⟨rfl, rfl, rfl⟩ := H
    go_enter Try.func18, Try.ntmps18
    go_wp2_with (first | ((with_reducible refine gate_callee (f := 39) rfl ?_); refine goesL_ (some 16) rfl rfl Try.func39 (by kernel_rfl) rfl #[.slice A0 l0.length c0, .slice A1 l1.length c1] rfl (by (try simp only [List.map_toArray, List.map_cons, List.map_nil]); first | done | rfl | (simp only [List.length_drop, List.length_take]; rfl)) ?_; (with_reducible refine (spec_l05Dues.calls k _ _ l0 _ _ l1 t249 _ ?side1 ?side2 ?side3 ?side4 A3.out).mono ?_); (case side1 => repeat (first | exact HR0.out | (with_reducible refine Kd.C_alloc ?_ _) | (with_reducible refine Kd.C_drewN ?_ _) | (with_reducible refine Kd.C_drew ?_))); (case side2 => exact HC0.out); (case side3 => repeat (first | exact HR1.out | (with_reducible refine Kd.C_alloc ?_ _) | (with_reducible refine Kd.C_drewN ?_ _) | (with_reducible refine Kd.C_drew ?_))); (case side4 => exact HC1.out); rintro e w' ⟨rfl, ⟨nd, rfl⟩⟩; refine ⟨_, rfl, ?_⟩) | ((with_reducible refine gate_callee (f := 25) rfl ?_); refine goesL_ (some 17) rfl rfl Try.func25 (by kernel_rfl) rfl #[.slice A0 l0.length c0, .bool t249, .int .i64 7] rfl (by (try simp only [List.map_toArray, List.map_cons, List.map_nil]); first | done | rfl | (simp only [List.length_drop, List.length_take]; rfl)) ?_; (with_reducible refine (spec_l05Times.calls k _ _ l0 t249 7 t250 _ ?side1 ?side2 A4.out).mono ?_); (case side1 => repeat (first | exact HR0.out | (with_reducible refine Kd.C_alloc ?_ _) | (with_reducible refine Kd.C_drewN ?_ _) | (with_reducible refine Kd.C_drew ?_))); (case side2 => exact HC0.out); rintro e w' ⟨rfl, ⟨nd, rfl⟩⟩; refine ⟨_, rfl, ?_⟩) | ((with_reducible refine gate_dst (N := 20) rfl ?_); refine Kd.R_lit (Kd.int .i64) _ 2 ?hg (N := 20) ?hd (xs := ([] : List Int)) (inner := []) (ok := fun _ => True) (okp := fun _ => True) ?hr ?hp (fun _ hk => hk) trivial (Below.refl _ _) (Nat.le_refl _) (by simp) ?_; (case hd => rfl); (case hg => rfl); (case hr => first | (go_simp; done) | (go_simp; rfl)); (case hp => exact (Reps.none _ _)); intro v252 w24 ho25 hb hg_ hnew_; clear hg_ hnew_; (first | rw [← Ny251.out] at ho25 | (simp only [Int.reduceToNat] at ho25; rw [← Ny251.out] at ho25)); have n0_ := Aside0.mk (Kd.R_lower (Kd.R_newM (M := fun k_ => (w.heap.size ≤ k_)) ho25 (below_size (by repeat (first | (with_reducible first | exact HB.out | apply below_alloc | apply pw_below_drewN | apply below_drew1) | exact HB.out))) (fun k_ h_ => h_)) (below_size (by repeat (first | (with_reducible first | exact HB.out | apply below_alloc | apply pw_below_drewN | apply below_drew1) | exact HB.out)))); have n1_ := Aside0.mk (below_step (by repeat (first | (with_reducible first | exact HB.out | apply below_alloc | apply pw_below_drewN | apply below_drew1) | exact HB.out)) hb); clear HB; have HO253 := n0_; have HB := n1_; clear n0_ n1_; clear hb ho25))
    go_ret3
    exact ⟨_, by first | rfl | (simp [errW_none, errW_some] <;> rfl) | (simp [*, errW_none, errW_some] <;> rfl), Kd.R_V (by (with_reducible repeat (first | apply Kd.R_alloc | apply Kd.R_drewN | apply Kd.R_drew)); exact Kd.R_mono HO253.out (fun _ hk => hk.1)), by repeat (first | (with_reducible first | exact HB.out | apply below_alloc | apply pw_below_drewN | apply below_drew1) | exact HB.out)⟩
end Go.Proofs.Ytcibhhkpnakkgaa.Q
namespace Go.Proofs.Ytcibhhkpnakkgaa.Ext
end Go.Proofs.Ytcibhhkpnakkgaa.Ext
namespace Go.Proofs.Ytcibhhkpnakkgaa.Q
open Go.Proofs.Ytcibhhkpnakkgaa.Ext
open Go.RowKit Go.Proofs.YtcibhhkpnakkgaaW.PrintWords Go.Proofs.YtcibhhkpnakkgaaW.PrintLast Go.Proofs.YtcibhhkpnakkgaaW.PrintMore
attribute [local go_sem] max2_int min2_int max_two min_two max_three min_three max_four min_four
set_option linter.unusedVariables false
set_option linter.unusedSimpArgs false
def spec_l05Rising.l0 : Nat → Int → List Int → Int → Option (List Int)
  | 0, _, _, _ => none
  | k + 1, x0, x3, x4 => if x4 < x0 then (if x3.length < 17592186044416 then (spec_l05Rising.l0 k x0 (x3 ++ [x4]) (wrap64 (x4 + 1))) else (none)) else (some x3)
def spec_l05Rising.f (k : Nat) (a0 : Int) : Option (List Int) := spec_l05Rising.l0 k a0 (([] : List Int)) 0
theorem spec_l05Rising.mono_l : ∀ k, (∀ y0 y1 y2, LeO (spec_l05Rising.l0 k y0 y1 y2) (spec_l05Rising.l0 (k + 1) y0 y1 y2))
  | 0 => fun _ _ _ r h => by simp [spec_l05Rising.l0] at h
  | k + 1 => by
    have ih0 := spec_l05Rising.mono_l k
    · intro y0 y1 y2
      unfold spec_l05Rising.l0
      repeat' first
      | (with_reducible exact ih0 _ _ _)
      | (with_reducible exact LeO.refl _)
      | (with_reducible exact LeO.none _)
      | (with_reducible refine LeO.ite ?_ ?_)
      | (with_reducible refine LeO.bind ?_ (fun _ => ?_))
      | exact ih0 _ _ _
      | exact LeO.none _
      | refine LeO.ite ?_ ?_
      | refine LeO.bind ?_ (fun _ => ?_)
theorem spec_l05Rising.mono : ∀ a0 k, LeO (spec_l05Rising.f k a0) (spec_l05Rising.f (k + 1) a0) := by
  intro a0 k
  have ih0 := spec_l05Rising.mono_l k
  unfold spec_l05Rising.f
  repeat' first
      | (with_reducible exact ih0 _ _ _)
      | (with_reducible exact LeO.refl _)
      | (with_reducible exact LeO.none _)
      | (with_reducible refine LeO.ite ?_ ?_)
      | (with_reducible refine LeO.bind ?_ (fun _ => ?_))
      | exact ih0 _ _ _
      | exact LeO.none _
      | refine LeO.ite ?_ ?_
      | refine LeO.bind ?_ (fun _ => ?_)
set_option maxHeartbeats 8000000 in
set_option maxRecDepth 100000 in
theorem spec_l05Rising.calls (k : Nat) (a0 : Int) (r : List Int) (w : World) (h : spec_l05Rising.f k a0 = some r) :
    Calls Try.prog 41 #[.int .i64 a0] w fun e w' => ∃ v0_ : Value, e = .returned (v0_) ∧ Kd.R (Kd.int .i64) 2 w' w.heap.size (fun _ => True) v0_ r ∧ Below w.heap.size w w' := by
  have HB := Aside0.mk (Below.refl w.heap.size w)
  have H : (spec_l05Rising.l0 k a0 (([] : List Int)) 0) = some r := h
  clear h
  obtain ⟨y209, hy209⟩ : ∃ y_ : List Int, y_ = (([] : List Int)) := ⟨_, rfl⟩
  replace H : (spec_l05Rising.l0 k a0 y209 0) = some r := by first | (rw [hy209]; with_reducible exact H) | (have H2_ := (Option.bind_some _ _).symm.trans H; rw [hy209]; with_reducible exact H2_) | (have H2_ := (Option.bind_some _ _).symm.trans H; with_reducible exact H2_) | with_reducible exact H | (rw [hy209]; exact H) | exact H
  have Ny209 := Aside0.mk hy209
  clear hy209
  have H' := Aside0.mk H
  clear H
  go_enter Try.func41, Try.ntmps41
  go_wp2_with (first | ((with_reducible refine gate_dst (N := 5) rfl ?_); refine Kd.R_lit (Kd.int .i64) _ 2 ?hg (N := 5) ?hd (xs := ([] : List Int)) (inner := []) (ok := fun _ => True) (okp := fun _ => True) ?hr ?hp (fun _ hk => hk) trivial (Below.refl _ _) (Nat.le_refl _) (by simp) ?_; (case hd => rfl); (case hg => rfl); (case hr => first | (go_simp; done) | (go_simp; rfl)); (case hp => exact (Reps.none _ _)); intro v210 w2 ho3 hb hg_ hnew_; clear hg_ hnew_; (first | rw [← Ny209.out] at ho3 | (simp only [Int.reduceToNat] at ho3; rw [← Ny209.out] at ho3)); have n0_ := Aside0.mk (Kd.R_lower ho3 (below_size (by repeat (first | (with_reducible first | exact HB.out | apply below_alloc | apply pw_below_drewN | apply below_drew1) | exact HB.out)))); have n1_ := Aside0.mk (below_step (by repeat (first | (with_reducible first | exact HB.out | apply below_alloc | apply pw_below_drewN | apply below_drew1) | exact HB.out)) hb); clear HB; have HO211 := n0_; have HB := n1_; clear n0_ n1_; clear hb ho3))
  go_loopg [3, 4] k (fun kq v3 v4 w' => ∃ (x3_1 : List Int) (x4_1 : Int), v4 = .int .i64 x4_1 ∧ Aside0 (spec_l05Rising.l0 kq a0 x3_1 x4_1 = some r) ∧ Aside0 (kq ≤ k) ∧ Aside0 (Kd.R (Kd.int .i64) 2 w' w.heap.size (fun _ => True) v3 x3_1) ∧ Aside0 (Below w.heap.size w w'))
  case atStart => exact ⟨(y209), (0), (by first | rfl | (simp; done) | (simp [*]; done)), H', ⟨Nat.le_refl _⟩, ⟨by (with_reducible repeat (first | apply Kd.R_alloc | apply Kd.R_drewN | apply Kd.R_drew)); exact HO211.out⟩, ⟨by repeat (first | (with_reducible first | exact HB.out | apply below_alloc | apply pw_below_drewN | apply below_drew1) | exact HB.out)⟩⟩
  case round =>
    clear H'
    try clear p2
    obtain ⟨x3_1, x4_1, rfl, HA, HK1, HO_3, HB⟩ := hrel
    cases gk with
    | zero => exact absurd HA.out (by simp [spec_l05Rising.l0])
    | succ k1 =>
      have H := HA.out
      clear HA
      simp only [spec_l05Rising.l0] at H
      by_cases c4 : x4_1 < a0
      · rw [if_pos c4] at H
        have c4b0 : decide (x4_1 < a0) = true := decide_eq_true c4
        clear c4
        by_cases c5 : x3_1.length < 17592186044416
        · rw [if_pos c5] at H
          have LMc5 := Aside0.mk c5
          clear c5
          obtain ⟨y212, hy212⟩ : ∃ y_ : List Int, y_ = (x3_1 ++ [x4_1]) := ⟨_, rfl⟩
          replace H : (spec_l05Rising.l0 k1 a0 y212 (wrap64 (x4_1 + 1))) = some r := by first | (rw [hy212]; with_reducible exact H) | (have H2_ := (Option.bind_some _ _).symm.trans H; rw [hy212]; with_reducible exact H2_) | (have H2_ := (Option.bind_some _ _).symm.trans H; with_reducible exact H2_) | with_reducible exact H | (rw [hy212]; exact H) | exact H
          have Ny212 := Aside0.mk hy212
          clear hy212
          have H' := Aside0.mk H
          clear H
          go_wp2_with (first | ((with_reducible refine gate_builtin (b := .append) (xs := #[.tmp 11, .tmp 13]) rfl ?_); at_builtin; refine Kd.R_append (Kd.int .i64) (w0 := w) w.heap.size rfl (.tmp 11) (.tmp 13) 24 2 (.int .i64 0) 8 rfl Try.underlying24 info2 rfl (by decide) (by omega) u3 x3_1 x4_1 [.int .i64 x4_1] (fun _ => True) (fun _ => False) rfl rfl ?aP (fun _ hk => hk.elim) ?aF ?aO ?aB ?aS ?aL ?_; (case aP => exact rfl); (case aB => exact (by repeat (first | (with_reducible first | exact HB.out | apply below_alloc | apply pw_below_drewN | apply below_drew1) | exact HB.out))); (case aF => exact (fun _ _ => trivial)); (case aO => exact (by (with_reducible repeat (first | apply Kd.R_alloc | apply Kd.R_drewN | apply Kd.R_drew)); exact HO_3.out)); (case aS => exact (below_size (by repeat (first | (with_reducible first | exact HB.out | apply below_alloc | apply pw_below_drewN | apply below_drew1) | exact HB.out)))); (case aL => have := LMc5.out; omega); intro v213 w6 ho hb hg hat; rw [← Ny212.out] at ho; have n0_ := Aside0.mk (hb); have n1_ := Aside0.mk (ho); clear HB; clear HO_3; have HB := n0_; have HO214 := n1_; clear n0_ n1_; clear ho hb hg hat))
          go_roundg k1
          case measure => have := HK1.out; omega
          case rel => exact ⟨(y212), (wrap64 (x4_1 + 1)), (by first | rfl | (simp; done) | (simp [*]; done)), H', ⟨by have := HK1.out; omega⟩, ⟨by (with_reducible repeat (first | apply Kd.R_alloc | apply Kd.R_drewN | apply Kd.R_drew)); exact HO214.out⟩, ⟨by repeat (first | (with_reducible first | exact HB.out | apply below_alloc | apply pw_below_drewN | apply below_drew1) | exact HB.out)⟩⟩
        · rw [if_neg c5] at H
          exact absurd H (by simp)
      · rw [if_neg c4] at H
        have c4b0 : decide (x4_1 < a0) = false := decide_eq_false c4
        clear c4
        obtain rfl := Option.some.inj H
        go_wp2
        go_ret
        exact ⟨_, by first | rfl | (simp [errW_none, errW_some] <;> rfl) | (simp [*, errW_none, errW_some] <;> rfl), by (with_reducible repeat (first | apply Kd.R_alloc | apply Kd.R_drewN | apply Kd.R_drew)); exact HO_3.out, by repeat (first | (with_reducible first | exact HB.out | apply below_alloc | apply pw_below_drewN | apply below_drew1) | exact HB.out)⟩
def spec_LateLines.f (k : Nat) (l0 : List Int) (l1 : List Int) : Option (List Int × Int) := (spec_l05Dues.f k l0 l1).bind fun t215 => ((spec_l05Times.f k l0 t215 12).bind fun t216 => (if t216 = 0 then ((spec_l05Rising.f k (l0.length : Int)).bind fun t217 => ((spec_l05Late.f k l0 l1 t217).bind fun t220 => (some (t220, 0)))) else (some ((([] : List Int)), t216))))
theorem spec_LateLines.mono : ∀ a0 a1 k, LeO (spec_LateLines.f k a0 a1) (spec_LateLines.f (k + 1) a0 a1) := by
  intro a0 a1 k
  unfold spec_LateLines.f
  repeat' first
      | (with_reducible exact spec_l05Dues.mono _ _ _)
      | (with_reducible exact spec_l05Late.mono _ _ _ _)
      | (with_reducible exact spec_l05Rising.mono _ _)
      | (with_reducible exact spec_l05Times.mono _ _ _ _)
      | (with_reducible exact LeO.refl _)
      | (with_reducible exact LeO.none _)
      | (with_reducible refine LeO.ite ?_ ?_)
      | (with_reducible refine LeO.bind ?_ (fun _ => ?_))
      | exact spec_l05Dues.mono _ _ _
      | exact spec_l05Late.mono _ _ _ _
      | exact spec_l05Rising.mono _ _
      | exact spec_l05Times.mono _ _ _ _
      | exact LeO.none _
      | refine LeO.ite ?_ ?_
      | refine LeO.bind ?_ (fun _ => ?_)
set_option maxHeartbeats 8000000 in
set_option maxRecDepth 100000 in
theorem spec_LateLines.calls (k : Nat) (A0 : Option Addr) (c0 : Nat) (l0 : List Int) (A1 : Option Addr) (c1 : Nat) (l1 : List Int) (r1 : List Int) (r2 : Int) (w : World) (hr0 : Kd.C (Kd.int .i64) w A0 l0.length l0) (hc0 : l0.length ≤ c0) (hr1 : Kd.C (Kd.int .i64) w A1 l1.length l1) (hc1 : l1.length ≤ c1) (h : spec_LateLines.f k l0 l1 = some (r1, r2)) :
    Calls Try.prog 15 #[.slice A0 l0.length c0, .slice A1 l1.length c1] w fun e w' => ∃ v0_ : Value, e = .returned (.tuple #[v0_, .int .i64 r2]) ∧ Kd.R (Kd.int .i64) 2 w' w.heap.size (fun _ => True) v0_ r1 ∧ Below w.heap.size w w' := by
  have HR0 := Aside0.mk hr0
  have HC0 := Aside0.mk hc0
  clear hr0 hc0
  have HR1 := Aside0.mk hr1
  have HC1 := Aside0.mk hc1
  clear hr1 hc1
  have HB := Aside0.mk (Below.refl w.heap.size w)
  have H : ((spec_l05Dues.f k l0 l1).bind fun t215 => ((spec_l05Times.f k l0 t215 12).bind fun t216 => (if t216 = 0 then ((spec_l05Rising.f k (l0.length : Int)).bind fun t217 => ((spec_l05Late.f k l0 l1 t217).bind fun t220 => (some (t220, 0)))) else (some ((([] : List Int)), t216))))) = some (r1, r2) := h
  clear h
  replace H := Option.bind_eq_some_iff.mp H
  obtain ⟨t215, A30, H⟩ := H
  replace H : ((spec_l05Times.f k l0 t215 12).bind fun t216 => (if t216 = 0 then ((spec_l05Rising.f k (l0.length : Int)).bind fun t217 => ((spec_l05Late.f k l0 l1 t217).bind fun t220 => (some (t220, 0)))) else (some ((([] : List Int)), t216)))) = some (r1, r2) := H
  have A3 := Aside0.mk A30
  clear A30
  replace H := Option.bind_eq_some_iff.mp H
  obtain ⟨t216, A40, H⟩ := H
  replace H : (if t216 = 0 then ((spec_l05Rising.f k (l0.length : Int)).bind fun t217 => ((spec_l05Late.f k l0 l1 t217).bind fun t220 => (some (t220, 0)))) else (some ((([] : List Int)), t216))) = some (r1, r2) := H
  have A4 := Aside0.mk A40
  clear A40
  by_cases c5 : t216 = 0
  · rw [if_pos c5] at H
    have c5b0 : (t216 == 0) = true := beq_iff_eq.mpr c5
    have c5b1 : (t216 != 0) = false := bne_eq_false_iff_eq.mpr c5
    clear c5
    replace H := Option.bind_eq_some_iff.mp H
    obtain ⟨t217, A60, H⟩ := H
    replace H : ((spec_l05Late.f k l0 l1 t217).bind fun t220 => (some (t220, 0))) = some (r1, r2) := H
    have A6 := Aside0.mk A60
    clear A60
    replace H := Option.bind_eq_some_iff.mp H
    obtain ⟨t220, A70, H⟩ := H
    replace H : (some (t220, 0)) = some (r1, r2) := H
    have A7 := Aside0.mk A70
    clear A70
    simp only [Option.some.injEq, Prod.mk.injEq] at H
    obtain ⟨rfl, rfl⟩ := H
    go_enter Try.func15, Try.ntmps15
    go_wp2_with (first | ((with_reducible refine gate_callee (f := 39) rfl ?_); refine goesL_ (some 10) rfl rfl Try.func39 (by kernel_rfl) rfl #[.slice A0 l0.length c0, .slice A1 l1.length c1] rfl (by (try simp only [List.map_toArray, List.map_cons, List.map_nil]); first | done | rfl | (simp only [List.length_drop, List.length_take]; rfl)) ?_; (with_reducible refine (spec_l05Dues.calls k _ _ l0 _ _ l1 t215 _ ?side1 ?side2 ?side3 ?side4 A3.out).mono ?_); (case side1 => repeat (first | exact HR0.out | (with_reducible refine Kd.C_alloc ?_ _) | (with_reducible refine Kd.C_drewN ?_ _) | (with_reducible refine Kd.C_drew ?_))); (case side2 => exact HC0.out); (case side3 => repeat (first | exact HR1.out | (with_reducible refine Kd.C_alloc ?_ _) | (with_reducible refine Kd.C_drewN ?_ _) | (with_reducible refine Kd.C_drew ?_))); (case side4 => exact HC1.out); rintro e w' ⟨rfl, ⟨nd, rfl⟩⟩; refine ⟨_, rfl, ?_⟩) | ((with_reducible refine gate_callee (f := 25) rfl ?_); refine goesL_ (some 11) rfl rfl Try.func25 (by kernel_rfl) rfl #[.slice A0 l0.length c0, .bool t215, .int .i64 12] rfl (by (try simp only [List.map_toArray, List.map_cons, List.map_nil]); first | done | rfl | (simp only [List.length_drop, List.length_take]; rfl)) ?_; (with_reducible refine (spec_l05Times.calls k _ _ l0 t215 12 t216 _ ?side1 ?side2 A4.out).mono ?_); (case side1 => repeat (first | exact HR0.out | (with_reducible refine Kd.C_alloc ?_ _) | (with_reducible refine Kd.C_drewN ?_ _) | (with_reducible refine Kd.C_drew ?_))); (case side2 => exact HC0.out); rintro e w' ⟨rfl, ⟨nd, rfl⟩⟩; refine ⟨_, rfl, ?_⟩) | ((with_reducible refine gate_callee (f := 41) rfl ?_); refine goesL_ (some 20) rfl rfl Try.func41 (by kernel_rfl) rfl #[.int .i64 (l0.length : Int)] rfl (by (try simp only [List.map_toArray, List.map_cons, List.map_nil]); first | done | rfl | (simp only [List.length_drop, List.length_take]; rfl)) ?_; (with_reducible refine (spec_l05Rising.calls k (l0.length : Int) t217 _ A6.out).mono ?_); rintro e w8 ⟨v218, rfl, ho0, hb⟩; refine ⟨_, rfl, ?_⟩; have n0_ := Aside0.mk (Kd.R_lower ho0 (below_size (by repeat (first | (with_reducible first | exact HB.out | apply below_alloc | apply pw_below_drewN | apply below_drew1) | exact HB.out)))); have n1_ := Aside0.mk (below_step (by repeat (first | (with_reducible first | exact HB.out | apply below_alloc | apply pw_below_drewN | apply below_drew1) | exact HB.out)) hb); clear HB; have HO219 := n0_; have HB := n1_; clear n0_ n1_; (try clear hb); (try clear hb2); (try clear hk); (try clear hi); (try clear ho0); obtain ⟨Ao9, co9, eo9⟩ := Kd.R_slice HO219.out; subst eo9) | ((with_reducible refine gate_callee (f := 40) rfl ?_); refine goesL_ (some 21) rfl rfl Try.func40 (by kernel_rfl) rfl #[.slice A0 l0.length c0, .slice A1 l1.length c1, .slice Ao9 t217.length co9] rfl (by (try simp only [List.map_toArray, List.map_cons, List.map_nil]); first | done | rfl | (simp only [List.length_drop, List.length_take]; rfl)) ?_; (with_reducible refine (spec_l05Late.calls k _ _ l0 _ _ l1 _ _ t217 t220 _ ?side1 ?side2 ?side3 ?side4 ?side5 ?side6 A7.out).mono ?_); (case side1 => repeat (first | exact (Kd.C_below HR0.out HB.out) | (with_reducible refine Kd.C_alloc ?_ _) | (with_reducible refine Kd.C_drewN ?_ _) | (with_reducible refine Kd.C_drew ?_))); (case side2 => exact HC0.out); (case side3 => repeat (first | exact (Kd.C_below HR1.out HB.out) | (with_reducible refine Kd.C_alloc ?_ _) | (with_reducible refine Kd.C_drewN ?_ _) | (with_reducible refine Kd.C_drew ?_))); (case side4 => exact HC1.out); (case side5 => repeat (first | exact (Kd.R_reads' HO219.out).2.2 | (with_reducible refine Kd.C_alloc ?_ _) | (with_reducible refine Kd.C_drewN ?_ _) | (with_reducible refine Kd.C_drew ?_))); (case side6 => exact (Kd.R_reads' HO219.out).2.1); rintro e w10 ⟨v221, rfl, ho0, hb⟩; refine ⟨_, rfl, ?_⟩; have n0_ := Aside0.mk (Kd.R_elder' (by (with_reducible repeat (first | apply Kd.R_alloc | apply Kd.R_drewN | apply Kd.R_drew)); exact HO219.out) (Kd.R_base ho0) hb); have n1_ := Aside0.mk (Kd.R_lower (Kd.R_new' ho0 (Kd.R_lt (by (with_reducible repeat (first | apply Kd.R_alloc | apply Kd.R_drewN | apply Kd.R_drew)); exact HO219.out))) (below_size (by repeat (first | (with_reducible first | exact HB.out | apply below_alloc | apply pw_below_drewN | apply below_drew1) | exact HB.out)))); have n2_ := Aside0.mk (below_step (by repeat (first | (with_reducible first | exact HB.out | apply below_alloc | apply pw_below_drewN | apply below_drew1) | exact HB.out)) hb); clear HO219; clear HB; have HO219 := n0_; have HO222 := n1_; have HB := n2_; clear n0_ n1_ n2_; (try clear hb); (try clear hb2); (try clear hk); (try clear hi); (try clear ho0)))
    go_ret2
    exact ⟨_, by first | rfl | (simp [errW_none, errW_some] <;> rfl) | (simp [*, errW_none, errW_some] <;> rfl), by (with_reducible repeat (first | apply Kd.R_alloc | apply Kd.R_drewN | apply Kd.R_drew)); exact Kd.R_mono HO222.out (fun _ hk => trivial), by repeat (first | (with_reducible first | exact HB.out | apply below_alloc | apply pw_below_drewN | apply below_drew1) | exact HB.out)⟩
  · rw [if_neg c5] at H
    have c5b0 : (t216 == 0) = false := beq_eq_false_iff_ne.mpr c5
    have c5b1 : (t216 != 0) = true := bne_iff_ne.mpr c5
    obtain ⟨y223, hy223⟩ : ∃ y_ : List Int, y_ = (([] : List Int)) := ⟨_, rfl⟩
    replace H : (some (y223, t216)) = some (r1, r2) := by first | (rw [hy223]; with_reducible exact H) | (have H2_ := (Option.bind_some _ _).symm.trans H; rw [hy223]; with_reducible exact H2_) | (have H2_ := (Option.bind_some _ _).symm.trans H; with_reducible exact H2_) | with_reducible exact H | (rw [hy223]; exact H) | exact H
    have Ny223 := Aside0.mk hy223
    clear hy223
    simp only [Option.some.injEq, Prod.mk.injEq] at H
    obtain ⟨rfl, rfl⟩ := H
    go_enter Try.func15, Try.ntmps15
    go_wp2_with (first | ((with_reducible refine gate_callee (f := 39) rfl ?_); refine goesL_ (some 10) rfl rfl Try.func39 (by kernel_rfl) rfl #[.slice A0 l0.length c0, .slice A1 l1.length c1] rfl (by (try simp only [List.map_toArray, List.map_cons, List.map_nil]); first | done | rfl | (simp only [List.length_drop, List.length_take]; rfl)) ?_; (with_reducible refine (spec_l05Dues.calls k _ _ l0 _ _ l1 t215 _ ?side1 ?side2 ?side3 ?side4 A3.out).mono ?_); (case side1 => repeat (first | exact HR0.out | (with_reducible refine Kd.C_alloc ?_ _) | (with_reducible refine Kd.C_drewN ?_ _) | (with_reducible refine Kd.C_drew ?_))); (case side2 => exact HC0.out); (case side3 => repeat (first | exact HR1.out | (with_reducible refine Kd.C_alloc ?_ _) | (with_reducible refine Kd.C_drewN ?_ _) | (with_reducible refine Kd.C_drew ?_))); (case side4 => exact HC1.out); rintro e w' ⟨rfl, ⟨nd, rfl⟩⟩; refine ⟨_, rfl, ?_⟩) | ((with_reducible refine gate_callee (f := 25) rfl ?_); refine goesL_ (some 11) rfl rfl Try.func25 (by kernel_rfl) rfl #[.slice A0 l0.length c0, .bool t215, .int .i64 12] rfl (by (try simp only [List.map_toArray, List.map_cons, List.map_nil]); first | done | rfl | (simp only [List.length_drop, List.length_take]; rfl)) ?_; (with_reducible refine (spec_l05Times.calls k _ _ l0 t215 12 t216 _ ?side1 ?side2 A4.out).mono ?_); (case side1 => repeat (first | exact HR0.out | (with_reducible refine Kd.C_alloc ?_ _) | (with_reducible refine Kd.C_drewN ?_ _) | (with_reducible refine Kd.C_drew ?_))); (case side2 => exact HC0.out); rintro e w' ⟨rfl, ⟨nd, rfl⟩⟩; refine ⟨_, rfl, ?_⟩) | ((with_reducible refine gate_dst (N := 14) rfl ?_); refine Kd.R_lit (Kd.int .i64) _ 2 ?hg (N := 14) ?hd (xs := ([] : List Int)) (inner := []) (ok := fun _ => True) (okp := fun _ => True) ?hr ?hp (fun _ hk => hk) trivial (Below.refl _ _) (Nat.le_refl _) (by simp) ?_; (case hd => rfl); (case hg => rfl); (case hr => first | (go_simp; done) | (go_simp; rfl)); (case hp => exact (Reps.none _ _)); intro v224 w11 ho12 hb hg_ hnew_; clear hg_ hnew_; (first | rw [← Ny223.out] at ho12 | (simp only [Int.reduceToNat] at ho12; rw [← Ny223.out] at ho12)); have n0_ := Aside0.mk (Kd.R_lower ho12 (below_size (by repeat (first | (with_reducible first | exact HB.out | apply below_alloc | apply pw_below_drewN | apply below_drew1) | exact HB.out)))); have n1_ := Aside0.mk (below_step (by repeat (first | (with_reducible first | exact HB.out | apply below_alloc | apply pw_below_drewN | apply below_drew1) | exact HB.out)) hb); clear HB; have HO225 := n0_; have HB := n1_; clear n0_ n1_; clear hb ho12))
    go_ret2
    exact ⟨_, by first | rfl | (simp [errW_none, errW_some] <;> rfl) | (simp [*, errW_none, errW_some] <;> rfl), by (with_reducible repeat (first | apply Kd.R_alloc | apply Kd.R_drewN | apply Kd.R_drew)); exact HO225.out, by repeat (first | (with_reducible first | exact HB.out | apply below_alloc | apply pw_below_drewN | apply below_drew1) | exact HB.out)⟩
end Go.Proofs.Ytcibhhkpnakkgaa.Q
namespace Go.Proofs.Ytcibhhkpnakkgaa.Pure
open Go.RowKit Go.Proofs.Ytcibhhkpnakkgaa.Ext Go.Proofs.Ytcibhhkpnakkgaa.Q Go.Proofs.YtcibhhkpnakkgaaW.PrintWords Go.Proofs.YtcibhhkpnakkgaaW.PrintLast Go.Proofs.YtcibhhkpnakkgaaW.PrintMore
set_option linter.unusedVariables false
set_option linter.unusedSimpArgs false
def upto (n : Nat) : List Int := (List.range n).map fun (i : Nat) => (i : Int)
theorem upto_succ (n : Nat) : upto (n + 1) = upto n ++ [(n : Int)] := by simp [upto, List.range_succ]
theorem upto_len (n : Nat) : (upto n).length = n := by simp [upto]
theorem indL_all (n : Nat) : indL (fun _ => true) n = upto n := by simp [indL, upto]
theorem rising_l0 (n : Nat) (hn : n ≤ 1048576) : ∀ (d k j : Nat), j + d = n → d < k → spec_l05Rising.l0 k n (upto j) j = some (upto n)
  | 0, k, j, hd, hk => by
    obtain ⟨k, rfl⟩ := some_k hk
    simp only [spec_l05Rising.l0]
    rw [if_neg (by omega)]
    obtain rfl : j = n := by omega
    rfl
  | d + 1, k, j, hd, hk => by
    obtain ⟨k, rfl⟩ := some_k hk
    simp only [spec_l05Rising.l0]
    rw [if_pos (by omega), if_pos (by rw [upto_len]; omega), wrap_succ j (by omega), ← upto_succ]
    exact rising_l0 n hn d k (j + 1) (by omega) (by omega)
theorem rising_eq {k : Nat} (n : Nat) (hn : n ≤ 1048576) (hk : n < k) : spec_l05Rising.f k n = some (upto n) := by
  unfold spec_l05Rising.f
  exact rising_l0 n hn n k 0 (by omega) hk
def lateL (t d : List Int) (now : Int) : List Int → List Int
  | [] => []
  | i :: is => if wrap64 (now + rd t i) > rd d i then i :: lateL t d (wrap64 (now + rd t i)) is else lateL t d (wrap64 (now + rd t i)) is
theorem lateL_len (t d : List Int) (now : Int) (o : List Int) : (lateL t d now o).length ≤ o.length := by
  induction o generalizing now with
  | nil => simp [lateL]
  | cons i is ih =>
    rw [lateL]
    have := ih (wrap64 (now + rd t i))
    split <;> simp <;> omega
def inds (o : List Int) (n : Nat) : Prop := ∀ i ∈ o, 0 ≤ i ∧ i < n
theorem spec_late_l0 (t d o : List Int) (ho : o.length ≤ 1048576) (hi : inds o t.length) (hi2 : inds o d.length) : ∀ (r k n : Nat) (out : List Int) (now : Int), n + r = o.length → r < k → out.length ≤ n →
    spec_l05Late.l0 k t d o out now n = some (out ++ lateL t d now (o.drop n))
  | 0, k, n, out, now, hd, hk, hl => by
    obtain ⟨k, rfl⟩ := some_k hk
    simp only [spec_l05Late.l0]
    rw [if_neg (by omega), List.drop_eq_nil_of_le (by omega)]
    simp [lateL]
  | r + 1, k, n, out, now, hd, hk, hl => by
    obtain ⟨k, rfl⟩ := some_k hk
    have h1 := hi _ (rd_mem o n (by omega))
    have h2 := hi2 _ (rd_mem o n (by omega))
    simp only [spec_l05Late.l0]
    rw [if_pos (by omega), if_pos (by omega), if_pos h1.1, if_pos h1.2, if_pos h2.2, wrap_succ n (by omega), drop_cons o n (by omega), lateL]
    by_cases h : wrap64 (now + rd t (rd o n)) > rd d (rd o n)
    · rw [if_pos h, if_pos (by omega), if_pos h, spec_late_l0 t d o ho hi hi2 r k (n + 1) _ _ (by omega) (by omega) (by simp; omega)]
      simp
    · rw [if_neg h, if_neg h, spec_late_l0 t d o ho hi hi2 r k (n + 1) _ _ (by omega) (by omega) (by omega)]
theorem spec_late_eq {k : Nat} (t d o : List Int) (ho : o.length ≤ 1048576) (hi : inds o t.length) (hi2 : inds o d.length) (hk : o.length < k) : spec_l05Late.f k t d o = some (lateL t d 0 o) := by
  unfold spec_l05Late.f
  have := spec_late_l0 t d o ho hi hi2 o.length k 0 [] 0 (by omega) hk (by simp)
  simpa using this
theorem impl_late_l0 (t d o : List Int) (ho : o.length ≤ 1048576) (hi : inds o t.length) (hi2 : inds o d.length) : ∀ (r k n : Nat) (out : List Int) (now : Int), n + r = o.length → r < k → out.length ≤ n →
    impl_late.l0 k t d out now o o.length n = some (out ++ lateL t d now (o.drop n))
  | 0, k, n, out, now, hd, hk, hl => by
    obtain ⟨k, rfl⟩ := some_k hk
    simp only [impl_late.l0]
    rw [if_neg (by omega), List.drop_eq_nil_of_le (by omega)]
    simp [lateL]
  | r + 1, k, n, out, now, hd, hk, hl => by
    obtain ⟨k, rfl⟩ := some_k hk
    have h1 := hi _ (rd_mem o n (by omega))
    have h2 := hi2 _ (rd_mem o n (by omega))
    simp only [impl_late.l0]
    rw [if_pos (by omega), if_pos (by omega), if_pos (by omega), if_pos h1.1, if_pos h1.2, if_pos h2.2, wrap_succ n (by omega), drop_cons o n (by omega), lateL]
    by_cases h : wrap64 (now + rd t (rd o n)) > rd d (rd o n)
    · rw [if_pos h, if_pos (by omega), if_pos h, impl_late_l0 t d o ho hi hi2 r k (n + 1) _ _ (by omega) (by omega) (by simp; omega)]
      simp
    · rw [if_neg h, if_neg h, impl_late_l0 t d o ho hi hi2 r k (n + 1) _ _ (by omega) (by omega) (by omega)]
theorem impl_late_eq {k : Nat} (t d o : List Int) (ho : o.length ≤ 1048576) (hi : inds o t.length) (hi2 : inds o d.length) (hk : o.length < k) : impl_late.f k t d o = some (lateL t d 0 o) := by
  unfold impl_late.f
  have := impl_late_l0 t d o ho hi hi2 o.length k 0 [] 0 (by omega) hk (by simp)
  simpa using this
def duesB (t d : List Int) : Bool := d.all (fun n => inB n 0 1200000) && decide (t.length = d.length)
theorem dues_l0 (t d : List Int) (hl : d.length ≤ 1048576) : ∀ (r k n : Nat), n + r = d.length → r < k → spec_l05Dues.l0 k t d n = some ((d.drop n).all (fun n => inB n 0 1200000) && decide (t.length = d.length))
  | 0, k, n, hd, hk => by
    obtain ⟨k, rfl⟩ := some_k hk
    simp only [spec_l05Dues.l0]
    rw [if_neg (by omega), List.drop_eq_nil_of_le (by omega)]
    congr 1
    rw [Bool.eq_iff_iff]; simp; omega
  | r + 1, k, n, hd, hk => by
    obtain ⟨k, rfl⟩ := some_k hk
    simp only [spec_l05Dues.l0]
    rw [if_pos (by omega), if_pos (by omega), in_eq, drop_cons d n (by omega), wrap_succ n (by omega)]
    simp only [Option.bind_some, List.all_cons]
    cases inB (rd d n) 0 1200000
    · simp
    · rw [if_pos rfl, dues_l0 t d hl r k (n + 1) (by omega) (by omega)]
      simp
theorem dues_eq {k : Nat} (t d : List Int) (hl : d.length ≤ 1048576) (hk : d.length < k) : spec_l05Dues.f k t d = some (duesB t d) := by
  unfold spec_l05Dues.f duesB
  have := dues_l0 t d hl d.length k 0 (by omega) hk
  simpa using this
theorem impl_due_eq (t d : List Int) (m : Int) : impl_dueCode.f t d m = some (timesC (duesB t d) t m) := by
  unfold impl_dueCode.f slices_ContainsFunc_int64_int64_at_impl_dueCode_1.f
  rw [any_out]
  simp only [Option.bind_some]
  by_cases h : t.length = d.length
  · rw [if_pos (by omega)]
    cases ha : d.all (fun n => inB n 0 1200000)
    · have : duesB t d = false := by simp [duesB, ha]
      rw [this]; simp [timesC]
    · have : duesB t d = true := by simp [duesB, ha, h]
      rw [this, impl_times_eq]
      simp [inB]
  · rw [if_neg (by omega)]
    have : duesB t d = false := by simp [duesB, h]
    rw [this]; simp [timesC]
def lateC (t d : List Int) : List Int × Int := if timesC (duesB t d) t 12 = 0 then (lateL t d 0 (upto t.length), 0) else ([], timesC (duesB t d) t 12)
theorem inds_upto (n : Nat) : inds (upto n) n := by
  intro i hi
  simp only [upto, List.mem_map, List.mem_range] at hi
  obtain ⟨j, hj, rfl⟩ := hi
  omega
theorem duesB_len {t d : List Int} (h : duesB t d = true) : t.length = d.length := by
  unfold duesB at h
  rw [Bool.and_eq_true] at h
  simpa using h.2
theorem impl_lateLines_eq {k : Nat} (t d : List Int) (hl : t.length ≤ 1048576) (hk : t.length < k) : impl_LateLines.f k t d = some (lateC t d) := by
  unfold impl_LateLines.f lateC
  rw [impl_due_eq]
  simp only [Option.bind_some]
  by_cases h : timesC (duesB t d) t 12 = 0
  · rw [if_pos h, if_pos h]
    have h1 := timesC_zero h
    have e := duesB_len h1.1
    unfold impl_indices_at_impl_LateLines_1.f
    rw [if_pos (by omega)]
    simp only [Option.bind_some, Int.toNat_natCast, indL_all]
    rw [impl_late_eq t d _ (by rw [upto_len]; exact hl) (inds_upto _) (by rw [← e]; exact inds_upto _) (by rw [upto_len]; omega)]
    rfl
  · rw [if_neg h, if_neg h]
theorem spec_lateLines_eq {k : Nat} (t d : List Int) (hl : t.length ≤ 1048576) (hl2 : d.length ≤ 1048576) (hk : t.length + d.length < k) : spec_LateLines.f k t d = some (lateC t d) := by
  unfold spec_LateLines.f lateC
  rw [dues_eq t d hl2 (by omega)]
  simp only [Option.bind_some]
  rw [spec_times_eq t _ 12 (by omega) hl (by omega)]
  simp only [Option.bind_some]
  by_cases h : timesC (duesB t d) t 12 = 0
  · rw [if_pos h, if_pos h]
    have h1 := timesC_zero h
    have e := duesB_len h1.1
    rw [rising_eq _ hl (by omega)]
    simp only [Option.bind_some]
    rw [spec_late_eq t d _ (by rw [upto_len]; exact hl) (inds_upto _) (by rw [← e]; exact inds_upto _) (by rw [upto_len]; omega)]
    rfl
  · rw [if_neg h, if_neg h]
end Go.Proofs.Ytcibhhkpnakkgaa.Pure
namespace Go.Proofs.Ytcibhhkpnakkgaa.Ext
open Go.RowKit Go.Proofs.YtcibhhkpnakkgaaW.PrintWords Go.Proofs.YtcibhhkpnakkgaaW.PrintLast Go.Proofs.YtcibhhkpnakkgaaW.PrintMore Go.Proofs.Ytcibhhkpnakkgaa.Q Go.Proofs.Ytcibhhkpnakkgaa.Pure
set_option linter.unusedVariables false
set_option linter.unusedSimpArgs false
def lateN (t d o : List Int) : Int := ((lateL t d 0 o).length : Int)
def updF (t d o : List Int) (σ : List Int × Int) : List Int × Int := if σ.2 < 0 ∨ lateN t d o < σ.2 then (o, lateN t d o) else σ
def chooseM (t d : List Int) : Nat → List Int → List Int × Int → List Int × Int
  | 0, o, σ => updF t d o σ
  | r + 1, o, σ => (List.range t.length).foldl (fun σ (i : Nat) => if o.any (fun y => (i : Int) == y) then σ else chooseM t d r (o ++ [(i : Int)]) σ) σ
def stepF (t d : List Int) (r : Nat) (o : List Int) (σ : List Int × Int) (i : Nat) : List Int × Int := if o.any (fun y => (i : Int) == y) then σ else chooseM t d r (o ++ [(i : Int)]) σ
theorem chooseM_succ (t d : List Int) (r : Nat) (o : List Int) (σ : List Int × Int) : chooseM t d (r + 1) o σ = (List.range t.length).foldl (stepF t d r o) σ := rfl
def lbF (gt gd gl gb gc : Nat) : Array Value := #[.pointer (some ⟨gt, 0, none⟩), .pointer (some ⟨gd, 0, none⟩), .pointer (some ⟨gl, 0, none⟩), .pointer (some ⟨gb, 0, none⟩), .pointer (some ⟨gc, 0, none⟩)]
abbrev InvF (w0 : World) (B gt gd gl gb gc : Nat) (A0 : Option Addr) (c0 : Nat) (l0 : List Int) (A1 : Option Addr) (c1 : Nat) (l1 : List Int) (σ : List Int × Int) (w : World) : Prop :=
  InvB w0 B gt gd gl gb gc (.slice A0 l0.length c0) (.slice A1 l1.length c1) (.func (.func 43) #[] (lbF gt gd gl gb gc)) 24 51 σ w
theorem inds_snoc {o : List Int} {n i : Nat} (h : inds o n) (hi : i < n) : inds (o ++ [(i : Int)]) n := by
  intro x hx
  rcases List.mem_append.1 hx with h1 | h1
  · exact h x h1
  · obtain rfl := List.mem_singleton.1 h1
    omega
set_option maxRecDepth 100000 in
set_option maxHeartbeats 4000000 in
theorem choose_calls (w0 : World) (gt gd gl gb gc : Nat) (A0 : Option Addr) (c0 : Nat) (l0 : List Int) (A1 : Option Addr) (c1 : Nat) (l1 : List Int)
    (HR0 : Aside0 (Kd.C (Kd.int .i64) w0 A0 l0.length l0)) (hc0 : Aside0 (l0.length ≤ c0)) (HR1 : Aside0 (Kd.C (Kd.int .i64) w0 A1 l1.length l1)) (hc1 : Aside0 (l1.length ≤ c1)) (HN : Aside0 (l0.length ≤ 7)) (HL : Aside0 (l0.length = l1.length))
    (D : Aside0 (DistB w0.heap.size gt gd gl gb gc)) : ∀ (r : Nat) (o : List Int) (A : Option Addr) (c : Nat) (σ : List Int × Int) (w : World), Aside0 (o.length + r = l0.length) → Aside0 (inds o l0.length) → Aside0 (o.length ≤ c) →
      Aside0 (InvF w0 w0.heap.size gt gd gl gb gc A0 c0 l0 A1 c1 l1 σ w) → Aside0 (Kd.R (Kd.int .i64) 2 w w0.heap.size (okF gl gb) (.slice A o.length c) o) →
      Calls Try.prog 43 #[.slice A o.length c, .pointer (some ⟨gt, 0, none⟩), .pointer (some ⟨gd, 0, none⟩), .pointer (some ⟨gl, 0, none⟩), .pointer (some ⟨gb, 0, none⟩), .pointer (some ⟨gc, 0, none⟩)] w
        fun e w' => e = .returned (.tuple #[]) ∧ InvF w0 w0.heap.size gt gd gl gb gc A0 c0 l0 A1 c1 l1 (chooseM l0 l1 r o σ) w' ∧ Kept w w' (wrF gl gb) := by
  intro r
  induction r with
  | zero =>
    intro o A c σ w HO HI HC HV HR
    have h1 : ((o.length : Int) == (l0.length : Int)) = true := by have := HO.out; rw [beq_iff_eq]; omega
    have ht := cell_of HV.out.ht
    have hd := cell_of HV.out.hd
    go_enter Try.func43, Try.ntmps43
    go_wp2_with fail
    refine (impl_late.calls (o.length + 1) A0 c0 l0 A1 c1 l1 A c o (lateL l0 l1 0 o) w (Kd.C_below HR0.out HV.out.bel) hc0.out (Kd.C_below HR1.out HV.out.bel) hc1.out (Kd.R_reads' HR.out).2.2 HC.out (impl_late_eq l0 l1 o (by have := HO.out; have := HN.out; omega) HI.out (by rw [← HL.out]; exact HI.out) (by omega))).mono ?_
    rintro e w2 ⟨v17, rfl, hr17, hb2⟩
    obtain ⟨A', c', rfl, _, _⟩ := Kd.R_reads hr17
    have HV2 := Aside0.mk (HV.out.below hb2 (below_size HV.out.bel))
    have HR2 := Aside0.mk (Kd.R_below HR.out hb2)
    have HK := Aside0.mk (kept_below (gl := gl) (gb := gb) hb2)
    clear hr17 hb2 ht hd
    go_wp2_with fail
    refine (size_calls A' _ c' _).mono ?_
    rintro e w3 ⟨rfl, rfl⟩
    have hcl := cell_of HV2.out.hl
    have hfl := blk_frozen HV2.out.hl 0
    obtain ⟨vb, hb_, _⟩ := HV2.out.hb
    have hcb := cell_of hb_
    have hfb := blk_frozen hb_ 0
    have hcl2 : (w2.setCell ⟨gb, 0, none⟩ (.slice A o.length c)).cell? ⟨gl, 0, none⟩ = some (.int .i64 σ.2) := cell_of ((Below.heap_setCell _ _ _ _ D.out.g).trans HV2.out.hl)
    have hfl2 : (w2.setCell ⟨gb, 0, none⟩ (.slice A o.length c)).frozen? ⟨gl, 0, none⟩ = false := blk_frozen ((Below.heap_setCell _ _ _ _ D.out.g).trans HV2.out.hl) 0
    clear hb_
    have HE := Aside0.mk (show chooseM l0 l1 0 o σ = if σ.2 < 0 ∨ ((lateL l0 l1 0 o).length : Int) < σ.2 then (o, ((lateL l0 l1 0 o).length : Int)) else σ from rfl)
    have HN' := Aside0.mk (show (lateL l0 l1 0 o).length ≤ 9223372036854775807 by have := lateL_len l0 l1 0 o; have := HO.out; have := HN.out; omega)
    generalize (lateL l0 l1 0 o).length = N at *
    obtain ⟨s, hs⟩ : ∃ s, σ.2 = s := ⟨_, rfl⟩
    rw [hs] at hcl hcl2 HE
    clear hs
    have hgb := Aside0.mk (D.out.g)
    by_cases c1 : s < 0
    · have d1 : decide (s < 0) = true := decide_eq_true c1
      clear c1
      go_wp2
      refine bodyPost_ret (results_none rfl _ _ _) rfl ?_
      rw [HE.out, if_pos (Or.inl (of_decide_eq_true d1))]
      exact ⟨rfl, HV2.out.store D.out _ HR2.out, kept_trans HK.out (kept_store _ _)⟩
    · have d1 : decide (s < 0) = false := decide_eq_false c1
      clear c1
      by_cases c2 : (N : Int) < s
      · have d2 : decide ((N : Int) < s) = true := decide_eq_true c2
        clear c2
        go_wp2
        refine bodyPost_ret (results_none rfl _ _ _) rfl ?_
        rw [HE.out, if_pos (Or.inr (of_decide_eq_true d2))]
        exact ⟨rfl, HV2.out.store D.out _ HR2.out, kept_trans HK.out (kept_store _ _)⟩
      · have d2 : decide ((N : Int) < s) = false := decide_eq_false c2
        clear c2
        go_wp2
        refine bodyPost_ret (results_none rfl _ _ _) rfl ?_
        rw [HE.out, if_neg (by rintro (h | h); exact absurd h (of_decide_eq_false d1); exact absurd h (of_decide_eq_false d2))]
        exact ⟨rfl, HV2.out, HK.out⟩
  | succ r ih =>
    intro o A c σ w HO HI HC HV HR
    have hl7 : l0.length ≤ 7 := HN.out
    have h1 : ((o.length : Int) == (l0.length : Int)) = false := by have := HO.out; rw [beq_eq_false_iff_ne]; omega
    have ht := cell_of HV.out.ht
    go_enter Try.func43, Try.ntmps43
    go_wp2_with fail
    refine (size_calls A0 _ c0 _).mono ?_
    rintro e w3 ⟨rfl, rfl⟩
    clear ht h1
    go_wp2_with fail
    go_loopg [8, 30] l0.length (fun gg _ s30 wr => ∃ i : Nat, i ≤ l0.length ∧ l0.length - i ≤ gg ∧ s30 = .int .i64 i ∧ Aside0 (InvF w0 w0.heap.size gt gd gl gb gc A0 c0 l0 A1 c1 l1 ((List.range i).foldl (stepF l0 l1 r o) σ) wr) ∧ Aside0 (Kept w wr (wrF gl gb)))
    case atStart => exact ⟨0, by omega, by omega, rfl, HV, ⟨Kept.refl _ _⟩⟩
    case round =>
      obtain ⟨i, hi, hg, rfl, HV1, HK⟩ := hrel
      by_cases hlt : i < l0.length
      · have hltz : (i : Int) < (l0.length : Int) := by omega
        have HR1' := Aside0.mk (R_kept HR.out HK.out)
        have HS := Aside0.mk (fold_succ (stepF l0 l1 r o) σ i)
        generalize (List.range i).foldl (stepF l0 l1 r o) σ = σi at HV1 HS
        have HCo := Aside0.mk (Kd.R_reads' HR1'.out).2.2
        go_wp2_with fail
        refine (contains_calls A c o i _ HCo.out).mono ?_
        rintro e w3 ⟨rfl, rfl⟩
        cases hq : (o.any fun y => (i : Int) == y)
        · have HQ := Aside0.mk hq
          clear hq
          replace HS : Aside0 ((List.range (i + 1)).foldl (stepF l0 l1 r o) σ = chooseM l0 l1 r (o ++ [(i : Int)]) σi) := ⟨by rw [HS.out]; unfold stepF; rw [HQ.out]; rfl⟩
          go_wp2_with fail
          refine start_ (n := 7) (S := fun w' => w'.cell? ⟨gc, 0, none⟩ = some (.func (.func 43) #[] (lbF gt gd gl gb gc)) ∧ Kd.C (Kd.int .i64) w' A o.length o ∧ Below wr.heap.size wr w') (ds := [6]) #[false, false, false, false, false, false, false] (by kernel_rfl) rfl rfl ⟨(cellB HV1.out.hc (below_drew (Below.refl _ _))), (Kd.C_below HCo.out (below_drew (Below.refl _ _))), (below_drew (Below.refl _ _))⟩ (fun hHeld => ?_)
          refine pure_ (i := 1) (N := some 38) (v := ?_) (a' := ?_) #[false, true, false, false, false, false, false] rfl rfl (by kernel_rfl) (fun _ _ _ h => h) (Or.inl ⟨by rfl, ?_⟩) ?_ ?_
          rotate_left
          · intro w'
            go_simp
            with_reducible rfl
          rotate_left
          · simp only [Act.put, List.setIfInBounds_toArray, List.set_cons_zero, List.set_cons_succ, i64_w, i32_w]
            rfl
          refine pure_ (i := 3) (N := some 40) (v := ?_) (a' := ?_) #[false, true, false, true, false, false, false] rfl rfl (by kernel_rfl) (fun _ _ _ h => h) (Or.inl ⟨by rfl, ?_⟩) ?_ ?_
          rotate_left
          · intro w'
            go_simp
            with_reducible rfl
          rotate_left
          · simp only [Act.put, List.setIfInBounds_toArray, List.set_cons_zero, List.set_cons_succ, i64_w, i32_w]
            rfl
          refine take_ (i := 0) (N := some 37) (v := ?_) (a' := ?_) #[true, true, false, true, false, false, false] rfl rfl (by kernel_rfl) (fun _ _ _ h => h) (Or.inl ⟨by rfl, ?_⟩) hHeld ?_ ?_
          rotate_left
          · rintro w' ⟨s0, s1, s2⟩
            go_simp
            with_reducible rfl
          rotate_left
          · simp only [Act.put, List.setIfInBounds_toArray, List.set_cons_zero, List.set_cons_succ, i64_w, i32_w]
            rfl
          refine join_ (σ := Value × Value) 2 #[true, true, true, true, true, false, false] (fun s => [(39, s.1), (41, s.2)]) (fun s w' => (w'.cell? ⟨gc, 0, none⟩ = some (.func (.func 43) #[] (lbF gt gd gl gb gc)) ∧ Kd.C (Kd.int .i64) w' A o.length o ∧ Below wr.heap.size wr w') ∧ Kd.R (Kd.int .i64) 2 w' wr.heap.size (fun _ => True) s.1 o ∧ ∃ A cc, s.2 = .slice A 1 cc ∧ Kd.C (Kd.int .i64) w' A 1 [(i : Int)]) ?_ ?_
          rotate_left
          · intro hCont
            refine two_ (i := 2) (j := 4) (Ni := some 39) (Nj := some 41) #[true, true, true, true, false, false, false] #[true, true, false, true, true, false, false] rfl rfl rfl rfl (by kernel_rfl) (by decide) (by decide) (fun K hK => ?_) (fun K hK => ?_)
            · skip
              have hLow := hHeld.2.2
              refine goes_ Try.func29 (by kernel_rfl) rfl #[.slice A o.length c] (by rfl) rfl rfl (by simp only [List.map_toArray, List.map_cons, List.map_nil]; rfl) ?_
              with_reducible refine ((clone_calls A c o _ hHeld.2.1 (by have := HN.out; have := HO.out; omega))).mono ?_
              rintro e w3 ⟨v39, rfl, ho, hb⟩
              refine ⟨_, rfl, ?_⟩
              refine hK.out _ _ ⟨(cellB HV1.out.hc (below_step hHeld.2.2 hb)), (Kd.C_below HCo.out (below_step hHeld.2.2 hb)), (below_step hHeld.2.2 hb)⟩ (fun hHeld => ?_)
              clear hK K
              refine norm_ (a' := ?_) ?_ ?_
              rotate_left
              · show Act.put _ (some 39) _ = _
                simp only [Act.put, List.setIfInBounds_toArray, List.set_cons_zero, List.set_cons_succ, i64_w, i32_w]
                rfl
              refine one_ (i := 4) (N := some 41) #[true, true, true, true, true, false, false] rfl rfl (by kernel_rfl) (by decide) (fun K hK => ?_)
              refine value_ (w1 := ?_) (v := ?_) (by rfl) rfl ?_ ?_
              rotate_left 2
              · go_simp
                constructor
                · rfl
                · rfl
              refine hK.out _ _ ⟨(cellB HV1.out.hc (below_alloc hHeld.2.2 _)), (Kd.C_below HCo.out (below_alloc hHeld.2.2 _)), (below_alloc hHeld.2.2 _)⟩ (fun hHeld => ?_)
              clear hK K
              refine norm_ (a' := ?_) ?_ ?_
              rotate_left
              · show Act.put _ (some 41) _ = _
                simp only [Act.put, List.setIfInBounds_toArray, List.set_cons_zero, List.set_cons_succ, i64_w, i32_w]
                rfl
              exact norm_ (by simp only [putAll, Act.put, List.setIfInBounds_toArray, List.set_cons_zero, List.set_cons_succ]) (hCont (v39, .slice (some ⟨w3.heap.size, 0, none⟩) 1 1) _ ⟨hHeld, Kd.R_alloc (Kd.R_lower ho (below_size hLow)) _, ⟨_, _, rfl, reads_new1 _ _ _ rfl _⟩⟩)
            · skip
              refine value_ (w1 := ?_) (v := ?_) (by rfl) rfl ?_ ?_
              rotate_left 2
              · go_simp
                constructor
                · rfl
                · rfl
              refine hK.out _ _ ⟨(cellB HV1.out.hc (below_alloc hHeld.2.2 _)), (Kd.C_below HCo.out (below_alloc hHeld.2.2 _)), (below_alloc hHeld.2.2 _)⟩ (fun hHeld => ?_)
              clear hK K
              refine norm_ (a' := ?_) ?_ ?_
              rotate_left
              · show Act.put _ (some 41) _ = _
                simp only [Act.put, List.setIfInBounds_toArray, List.set_cons_zero, List.set_cons_succ, i64_w, i32_w]
                rfl
              refine one_ (i := 2) (N := some 39) #[true, true, true, true, true, false, false] rfl rfl (by kernel_rfl) (by decide) (fun K hK => ?_)
              have hLow := hHeld.2.2
              refine goes_ Try.func29 (by kernel_rfl) rfl #[.slice A o.length c] (by rfl) rfl rfl (by simp only [List.map_toArray, List.map_cons, List.map_nil]; rfl) ?_
              with_reducible refine ((clone_calls A c o _ hHeld.2.1 (by have := HN.out; have := HO.out; omega))).mono ?_
              rintro e w3 ⟨v39, rfl, ho, hb⟩
              refine ⟨_, rfl, ?_⟩
              refine hK.out _ _ ⟨(cellB HV1.out.hc (below_step hHeld.2.2 hb)), (Kd.C_below HCo.out (below_step hHeld.2.2 hb)), (below_step hHeld.2.2 hb)⟩ (fun hHeld => ?_)
              clear hK K
              refine norm_ (a' := ?_) ?_ ?_
              rotate_left
              · show Act.put _ (some 39) _ = _
                simp only [Act.put, List.setIfInBounds_toArray, List.set_cons_zero, List.set_cons_succ, i64_w, i32_w]
                rfl
              exact norm_ (by simp only [putAll, Act.put, List.setIfInBounds_toArray, List.set_cons_zero, List.set_cons_succ]) (hCont (v39, .slice (some ⟨wr.heap.size, 0, none⟩) 1 1) _ ⟨hHeld, Kd.R_lower ho (below_size hLow), ⟨_, _, rfl, Kd.C_below (Kd.C_drew (reads_new1 _ _ _ (by simp) _)) hb⟩⟩)
          rintro ⟨v39, v41⟩ w' ⟨hHeld, hO, A2, cc, e41, hC⟩
          dsimp only at e41
          subst e41
          refine norm_ (a' := ?_) ?_ ?_
          rotate_left
          · simp only [putAll, Act.put, List.setIfInBounds_toArray, List.set_cons_zero, List.set_cons_succ]
            rfl
          refine one_ (i := 5) (N := some 42) #[true, true, true, true, true, true, false] rfl rfl (by kernel_rfl) (by decide) (fun K hK => ?_)
          refine Kd.R_append_rows_step (Kd.int .i64) (Rr := (Kd.int .i64).K w') (w0 := wr) wr.heap.size (by rfl) (.tmp 39) (.tmp 41) 24 2 (.int .i64 0) 8 rfl Try.underlying24 info_i64 rfl (by decide) (by omega) v39 o [(i : Int)] A2 1 cc (fun _ => True) (fun _ => False) rfl rfl hO hC (fun _ _ h => h) (fun _ h => h.elim) (fun _ _ => trivial) hHeld.2.2 (below_size hHeld.2.2) (by have := HN.out; have := HO.out; omega) ?_
          intro v42 w4 ho4 hb4 hg4 hat4
          refine hK.out _ _ ⟨(cellB HV1.out.hc hb4), (Kd.C_below HCo.out hb4), hb4⟩ (fun hHeld => ?_)
          clear hK K
          refine norm_ (a' := ?_) ?_ ?_
          rotate_left
          · show Act.put _ (some 42) _ = _
            simp only [Act.put, List.setIfInBounds_toArray, List.set_cons_zero, List.set_cons_succ, i64_w, i32_w]
            rfl
          refine last_ (i := 6) (N := some 43) #[true, true, true, true, true, true, true] rfl rfl (by kernel_rfl) (by decide) (fun K hK => ?_)
          obtain ⟨A42, c42, rfl, hc42, hC42⟩ := Kd.R_reads ho4
          refine call_ 43 #[.slice A42 (o ++ [(i : Int)]).length c42, (.pointer (some ⟨gt, 0, none⟩)), (.pointer (some ⟨gd, 0, none⟩)), (.pointer (some ⟨gl, 0, none⟩)), (.pointer (some ⟨gb, 0, none⟩)), (.pointer (some ⟨gc, 0, none⟩))] (by rfl) rfl ?_ ?_
          · have he := enters_of Try.func43 (by kernel_rfl) rfl
            unfold execOp
            simp [resolve, Deferred.ofValue, invoke, Act.eval, lbF, he]
          refine (ih (o ++ [(i : Int)]) A42 c42 σi w4 ⟨by have := HO.out; simp; omega⟩ ⟨inds_snoc HI.out hlt⟩ ⟨hc42⟩ ⟨HV1.out.below hb4 (below_size HV1.out.bel)⟩ ⟨R_fresh ho4 (below_size HV1.out.bel) HV1.out.fresh⟩).mono ?_
          rintro e w5 ⟨rfl, HI5, HK5⟩
          refine ⟨_, rfl, ?_⟩
          refine hK.out _ _ ?_
          clear hK K
          refine norm_ (a' := ?_) ?_ ?_
          rotate_left
          · show Act.put _ (some 43) _ = _
            simp only [Act.put, List.setIfInBounds_toArray, List.set_cons_zero, List.set_cons_succ, i64_w, i32_w]
            rfl
          refine done_ (by kernel_rfl) ?_
          go_wp2_with fail
          go_roundg (l0.length - (i + 1))
          case measure => omega
          case rel => exact ⟨i + 1, by omega, by omega, by go_num, ⟨by rw [HS.out]; exact HI5⟩, ⟨kept_trans HK.out (kept_trans (kept_below hb4) HK5)⟩⟩
        · have HQ := Aside0.mk hq
          clear hq
          replace HS : Aside0 ((List.range (i + 1)).foldl (stepF l0 l1 r o) σ = σi) := ⟨by rw [HS.out]; unfold stepF; rw [HQ.out]; rfl⟩
          go_wp2_with fail
          go_roundg (l0.length - (i + 1))
          case measure => omega
          case rel => exact ⟨i + 1, by omega, by omega, by go_num, ⟨by rw [HS.out]; exact HV1.out⟩, HK⟩
      · have hltz : ¬ (i : Int) < (l0.length : Int) := by omega
        obtain rfl : i = l0.length := by omega
        go_wp2
        go_end0
        exact ⟨rfl, HV1.out, HK.out⟩
def fewC (t d : List Int) : List Int × Int × Int := if timesC (duesB t d) t 7 = 0 then ((chooseM t d t.length [] ([], -1)).1, (chooseM t d t.length [] ([], -1)).2, 0) else ([], 0, timesC (duesB t d) t 7)
def impl_FewestLate.f (l0 : List Int) (l1 : List Int) : Option (List Int × Int × Int) := some (fewC l0 l1)
set_option maxHeartbeats 2000000 in
theorem impl_FewestLate.calls (A0 : Option Addr) (c0 : Nat) (l0 : List Int) (A1 : Option Addr) (c1 : Nat) (l1 : List Int) (r1 : List Int) (r2 : Int) (r3 : Int) (w : World) (hr0 : Kd.C (Kd.int .i64) w A0 l0.length l0) (hc0 : l0.length ≤ c0) (hr1 : Kd.C (Kd.int .i64) w A1 l1.length l1) (hc1 : l1.length ≤ c1) (h : impl_FewestLate.f l0 l1 = some (r1, r2, r3)) :
    Calls Try.prog 17 #[.slice A0 l0.length c0, .slice A1 l1.length c1] w fun e w' => ∃ v0_ : Value, e = .returned (.tuple #[v0_, .int .i64 r2, .int .i64 r3]) ∧ Kd.R (Kd.int .i64) 2 w' w.heap.size (fun _ => True) v0_ r1 ∧ Below w.heap.size w w' := by
  have HR0 := Aside0.mk hr0
  have HC0 := Aside0.mk hc0
  have HR1 := Aside0.mk hr1
  have HC1 := Aside0.mk hc1
  clear hr0 hc0 hr1 hc1
  have h := Option.some.inj h
  have HD := Aside0.mk (impl_due_eq l0 l1 7)
  have HB := Aside0.mk (below_alloc (below_alloc (Below.refl w.heap.size w) (.cells #[.slice A0 l0.length c0] 24 (0, 0))) (.cells #[.slice A1 l1.length c1] 24 (0, 0)))
  have B0 := Aside0.mk (blk_alloc (blk_new w (.cells #[.slice A0 l0.length c0] 24 (0, 0))) (.cells #[.slice A1 l1.length c1] 24 (0, 0)))
  have B1 := Aside0.mk (blk_newAt (W := w.alloc (.cells #[.slice A0 l0.length c0] 24 (0, 0))) (n := w.heap.size + 1) (by simp) (.cells #[.slice A1 l1.length c1] 24 (0, 0)))
  unfold fewC at h
  by_cases hz : timesC (duesB l0 l1) l0 7 = 0
  · rw [if_pos hz] at h
    obtain ⟨_, hb7, hl7⟩ := timesC_zero hz
    rw [hz] at HD
    have HL7 := Aside0.mk (show l0.length ≤ 7 by omega)
    have HLL := Aside0.mk (duesB_len (timesC_zero hz).1)
    clear hz hb7 hl7
    injection h with h1 h
    injection h with h2 h3
    subst h3
    have H1 := Aside0.mk h1
    have H2 := Aside0.mk h2
    clear h1 h2
    go_enter Try.func17, Try.ntmps17
    go_wp2_with fail
    refine (impl_dueCode.calls A0 c0 l0 A1 c1 l1 7 0 _ (Kd.C_below HR0.out HB.out) HC0.out (Kd.C_below HR1.out HB.out) HC1.out HD.out).mono ?_
    rintro e w1 ⟨rfl, hb⟩
    replace B0 := Aside0.mk (blk_below B0.out hb)
    replace B1 := Aside0.mk (blk_below B1.out hb)
    replace HB := Aside0.mk (below_step HB.out hb)
    clear hb
    go_wp2_with (first | ((with_reducible refine gate_dst (N := 17) rfl ?_); refine Kd.R_lit (Kd.int .i64) _ 2 ?hg (N := 17) ?hd (xs := ([] : List Int)) (inner := []) (ok := fun _ => True) (okp := fun _ => True) ?hr ?hp (fun _ hk => hk) trivial (Below.refl _ _) (Nat.le_refl _) (by simp) ?_; (case hd => rfl); (case hg => rfl); (case hr => first | (go_simp; done) | (go_simp; rfl)); (case hp => exact (Reps.none _ _)); intro v17 w3 ho4 hb hg_ hnew_; clear hg_ hnew_; obtain ⟨Av, cv, rfl⟩ := Kd.R_slice ho4; have HO := Aside0.mk (Kd.R_lower ho4 (below_size HB.out)); have n1_ := Aside0.mk (below_step HB.out hb); have M0 := Aside0.mk (blk_below B0.out hb); have M1 := Aside0.mk (blk_below B1.out hb); clear HB B0 B1; have HB := n1_; clear n1_; clear hb ho4))
    have g0 := blk_lt' M0.out
    have g1 := blk_lt' M1.out
    have gB := HB.out.size
    have DD := Aside0.mk (show DistB w.heap.size w.heap.size (w.heap.size + 1) (w3.heap.size + 1) w3.heap.size (w3.heap.size + 1 + 1) from ⟨by omega, by omega, by omega, by omega, by omega, by omega, by omega, by omega, by omega⟩)
    have RB := Aside0.mk (show Kd.R (Kd.int .i64) 2 w3 w.heap.size (okF (w3.heap.size + 1) w3.heap.size) (.slice Av 0 cv) [] from Kd.R_mono (Kd.R_bound HO.out) (fun k hk => ⟨by have := hk.2.2.1; omega, by have := hk.2.2.1; omega⟩))
    clear g0 g1 gB h
    refine (choose_calls w w.heap.size (w.heap.size + 1) (w3.heap.size + 1) w3.heap.size (w3.heap.size + 1 + 1) A0 c0 l0 A1 c1 l1 HR0 HC0 HR1 HC1 HL7 HLL DD l0.length [] none 0 ([], -1) _ ⟨by simp⟩ ⟨fun x hx => absurd hx (by simp)⟩ ⟨by simp⟩
      ⟨⟨blk_alloc (blk_alloc (blk_alloc M0.out _) _) _, blk_alloc (blk_alloc (blk_alloc M1.out _) _) _, blk_alloc (blk_newAt (by simp) _) _, ⟨_, blk_alloc (blk_alloc (blk_newAt rfl _) _) _, Kd.R_alloc (Kd.R_alloc (Kd.R_alloc RB.out _) _) _⟩, blk_newAt (by simp) _, below_alloc (below_alloc (below_alloc HB.out _) _) _⟩⟩ ⟨Kd.R_nil _ _ _ _ _⟩).mono ?_
    rintro e w5 ⟨rfl, HI5, HK5⟩
    generalize chooseM l0 l1 l0.length [] ([], -1) = σ at HI5 H1 H2
    obtain ⟨s1, s2⟩ := σ
    have e1 := H1.out
    have e2 := H2.out
    dsimp only at e1 e2
    subst e1 e2
    have hcl := cell_of HI5.hl
    obtain ⟨vb, hb_, hRb⟩ := HI5.hb
    have hcb := cell_of hb_
    obtain ⟨Ab, cb, rfl⟩ := Kd.R_slice hRb
    have HRb := Aside0.mk (Kd.R_mono hRb (fun k _ => trivial))
    have HB5 := Aside0.mk HI5.bel
    clear HI5 HK5 hb_ hRb H1 H2
    go_wp2_with fail
    go_quiet (fail)
    go_wp2_with fail
    go_ret3
    exact ⟨_, rfl, (by (with_reducible repeat (first | apply Kd.R_alloc | apply Kd.R_drewN | apply Kd.R_drew)); exact HRb.out), (by repeat (first | (with_reducible first | exact HB5.out | apply below_alloc | apply pw_below_drewN | apply below_drew1) | exact HB5.out))⟩
  · rw [if_neg hz] at h
    have hne2 : (timesC (duesB l0 l1) l0 7 != 0) = true := by simpa using hz
    generalize timesC (duesB l0 l1) l0 7 = c at *
    have hne : (c == 0) = false := by simpa using hz
    injection h with h1 h
    injection h with h2 h3
    subst h1 h2 h3
    go_enter Try.func17, Try.ntmps17
    go_wp2_with fail
    refine (impl_dueCode.calls A0 c0 l0 A1 c1 l1 7 c _ (Kd.C_below HR0.out HB.out) HC0.out (Kd.C_below HR1.out HB.out) HC1.out HD.out).mono ?_
    rintro e w1 ⟨rfl, hb⟩
    have HB' := Aside0.mk (below_step HB.out hb)
    clear hb
    go_wp2_with fail
    go_ret3
    exact ⟨_, rfl, Kd.R_nil _ _ _ _ _, HB'.out⟩
end Go.Proofs.Ytcibhhkpnakkgaa.Ext
namespace Go.Proofs.Ytcibhhkpnakkgaa.Pure
open Go.RowKit Go.Proofs.YtcibhhkpnakkgaaW.PrintWords Go.Proofs.YtcibhhkpnakkgaaW.PrintMore Go.Proofs.Ytcibhhkpnakkgaa.Q Go.Proofs.Ytcibhhkpnakkgaa.Ext
set_option linter.unusedVariables false
set_option linter.unusedSimpArgs false
theorem has_l0 (l : List Int) (x : Int) (hl : l.length ≤ 1048576) : ∀ (d k n : Nat), n + d = l.length → d < k → spec_l00Has.l0 k l x n = some ((l.drop n).any (fun y => x == y))
  | 0, k, n, hd, hk => by
    obtain ⟨k, rfl⟩ := some_k hk
    simp only [spec_l00Has.l0]
    rw [if_neg (by omega), List.drop_eq_nil_of_le (by omega)]
    rfl
  | d + 1, k, n, hd, hk => by
    obtain ⟨k, rfl⟩ := some_k hk
    simp only [spec_l00Has.l0]
    rw [if_pos (by omega), if_pos (by omega), drop_cons l n (by omega), List.any_cons]
    by_cases h : rd l n = x
    · rw [if_pos h, h]
      simp
    · rw [if_neg h, wrap_succ n (by omega), has_l0 l x hl d k (n + 1) (by omega) (by omega)]
      have : (x == rd l n) = false := by rw [beq_eq_false_iff_ne]; exact fun e => h e.symm
      rw [this, Bool.false_or]
theorem has_eq {k : Nat} (l : List Int) (x : Int) (hl : l.length ≤ 1048576) (hk : l.length < k) : spec_l00Has.f k l x = some (l.any (fun y => x == y)) := by
  have := has_l0 l x hl l.length k 0 (by omega) hk
  simpa [spec_l00Has.f] using this
theorem own_eq (l : List Int) (hl : l.length ≤ 1048576) : spec_l00Own.f l = some l := by
  unfold spec_l00Own.f
  rw [Option.bind_some, if_pos (by simp; omega), List.nil_append]
def stepO (n : Nat) (f : List Int → List (List Int)) (o : List Int) (acc : List (List Int)) (i : Nat) : List (List Int) := if o.any (fun y => (i : Int) == y) then acc else acc ++ f (o ++ [(i : Int)])
def ordersM (n : Nat) : Nat → List Int → List (List Int)
  | 0, o => [o]
  | r + 1, o => (List.range n).foldl (stepO n (ordersM n r) o) []
def ordP (n r : Nat) (o : List Int) (i : Nat) : List (List Int) := (List.range i).foldl (stepO n (ordersM n r) o) []
theorem ordP_zero (n r : Nat) (o : List Int) : ordP n r o 0 = [] := rfl
theorem ordP_succ (n r : Nat) (o : List Int) (i : Nat) : ordP n r o (i + 1) = if o.any (fun y => (i : Int) == y) then ordP n r o i else ordP n r o i ++ ordersM n r (o ++ [(i : Int)]) := fold_succ _ _ _
theorem ordersM_succ (n r : Nat) (o : List Int) : ordersM n (r + 1) o = ordP n r o n := rfl
theorem orders_len (n : Nat) (hn : n ≤ 7) : ∀ (r : Nat) (o : List Int), (ordersM n r o).length ≤ 7 ^ r
  | 0, o => by simp [ordersM]
  | r + 1, o => by
    have h : ∀ i, (ordP n r o i).length ≤ i * 7 ^ r := by
      intro i
      induction i with
      | zero => simp [ordP]
      | succ i ih =>
        rw [ordP_succ]
        have := orders_len n hn r (o ++ [(i : Int)])
        split
        · exact Nat.le_trans ih (Nat.mul_le_mul_right _ (by omega))
        · rw [List.length_append, Nat.succ_mul]; omega
    rw [ordersM_succ]
    refine Nat.le_trans (h n) ?_
    rw [Nat.pow_succ, Nat.mul_comm]
    exact Nat.mul_le_mul_left _ hn
theorem ordP_len (n : Nat) (hn : n ≤ 7) (r : Nat) (o : List Int) (i : Nat) : (ordP n r o i).length ≤ i * 7 ^ r := by
  induction i with
  | zero => simp [ordP]
  | succ i ih =>
    rw [ordP_succ]
    have := orders_len n hn r (o ++ [(i : Int)])
    split
    · exact Nat.le_trans ih (Nat.mul_le_mul_right _ (by omega))
    · rw [List.length_append, Nat.succ_mul]; omega
theorem pow7 (r : Nat) (h : r ≤ 7) : 7 ^ r ≤ 823543 := by
  have := Nat.pow_le_pow_right (show 0 < 7 by decide) h
  exact this
theorem orders_mem (n : Nat) : ∀ (r : Nat) (o : List Int), inds o n → ∀ x ∈ ordersM n r o, inds x n ∧ x.length = o.length + r
  | 0, o, ho, x, hx => by
    obtain rfl := List.mem_singleton.1 hx
    exact ⟨ho, rfl⟩
  | r + 1, o, ho, x, hx => by
    have h : ∀ i, i ≤ n → ∀ x ∈ ordP n r o i, inds x n ∧ x.length = o.length + (r + 1) := by
      intro i
      induction i with
      | zero => intro _ x hx; simp [ordP] at hx
      | succ i ih =>
        intro hi x hx
        rw [ordP_succ] at hx
        split at hx
        · exact ih (by omega) x hx
        · rcases List.mem_append.1 hx with h1 | h1
          · exact ih (by omega) x h1
          · obtain ⟨a, b⟩ := orders_mem n r _ (inds_snoc ho (show i < n by omega)) x h1
            refine ⟨a, ?_⟩
            rw [b, List.length_append]; simp; omega
    exact h n (Nat.le_refl _) x hx
theorem pigeon : ∀ (n : Nat) (o : List Int), (∀ i, i < n → (i : Int) ∈ o) → n ≤ o.length
  | 0, _, _ => Nat.zero_le _
  | n + 1, o, h => by
    have h1 := h n (by omega)
    have h2 := pigeon n (o.erase (n : Int)) (fun i hi => (List.mem_erase_of_ne (by omega)).2 (h i (by omega)))
    rw [List.length_erase_of_mem h1] at h2
    have := List.length_pos_of_mem h1
    omega
theorem any_mem (o : List Int) (x : Int) : o.any (fun y => x == y) = true ↔ x ∈ o := by
  rw [List.any_eq_true]
  constructor
  · rintro ⟨y, hy, e⟩
    rw [beq_iff_eq.1 e]; exact hy
  · intro h
    exact ⟨x, h, by simp⟩
theorem orders_pos (n : Nat) : ∀ (r : Nat) (o : List Int), o.length + r = n → 0 < (ordersM n r o).length
  | 0, o, _ => by simp [ordersM]
  | r + 1, o, h => by
    have hex : ∃ i, i < n ∧ ¬ (i : Int) ∈ o := by
      apply Classical.byContradiction
      intro hno
      have := pigeon n o (fun i hi => Classical.byContradiction fun hc => hno ⟨i, hi, hc⟩)
      omega
    obtain ⟨i, hi, hni⟩ := hex
    have hP : ∀ m, i < m → 0 < (ordP n r o m).length := by
      intro m
      induction m with
      | zero => intro h; omega
      | succ m ih =>
        intro hm
        rw [ordP_succ]
        by_cases e : i = m
        · subst e
          rw [if_neg (by rw [any_mem]; exact hni), List.length_append]
          have := orders_pos n r (o ++ [(i : Int)]) (by simp; omega)
          omega
        · have := ih (by omega)
          split
          · exact this
          · rw [List.length_append]; omega
    exact hP n hi
mutual
theorem orders_eq (n : Nat) (hn : n ≤ 7) : ∀ (r k : Nat) (o : List Int), o.length + r = n → 20 * (r + 1) ≤ k → spec_l05Orders.f k n o = some (ordersM n r o)
  | 0, k, o, ho, hk => by
    obtain ⟨k, rfl⟩ := some_k (show 0 < k by omega)
    simp only [spec_l05Orders.f]
    rw [if_pos (by omega), own_eq o (by omega)]
    rfl
  | r + 1, k, o, ho, hk => by
    obtain ⟨k, rfl⟩ := some_k (show 0 < k by omega)
    simp only [spec_l05Orders.f]
    rw [if_neg (by omega)]
    have := orders_l0 n hn r n k 0 o (by omega) (by omega) (by omega)
    rw [ordP_zero] at this
    exact this
  termination_by r => (r, 0)
theorem orders_l0 (n : Nat) (hn : n ≤ 7) (r : Nat) : ∀ (d k i : Nat) (o : List Int), o.length + (r + 1) = n → i + d = n → 20 * (r + 1) + 10 + d ≤ k → spec_l05Orders.l0 k n o (ordP n r o i) i = some (ordersM n (r + 1) o)
  | 0, k, i, o, ho, hd, hk => by
    obtain ⟨k, rfl⟩ := some_k (show 0 < k by omega)
    simp only [spec_l05Orders.l0]
    obtain rfl : i = n := by omega
    rw [if_neg (by omega), ordersM_succ]
  | d + 1, k, i, o, ho, hd, hk => by
    obtain ⟨k, rfl⟩ := some_k (show 0 < k by omega)
    simp only [spec_l05Orders.l0]
    rw [if_pos (by omega), has_eq o i (by omega) (by omega)]
    simp only [Option.bind_some]
    have hs := ordP_succ n r o i
    by_cases h : (o.any fun y => (i : Int) == y) = true
    · rw [if_pos h] at hs
      rw [if_pos h, wrap_succ i (by omega), ← hs]
      exact orders_l0 n hn r d k (i + 1) o ho (by omega) (by omega)
    · rw [if_neg h] at hs
      have h1 := ordP_len n hn r o i
      have h2 := orders_len n hn r (o ++ [(i : Int)])
      have h3 := pow7 r (by omega)
      have h4 : i * 7 ^ r ≤ 7 * 823543 := Nat.mul_le_mul (by omega) h3
      rw [if_neg h, own_eq o (by omega)]
      simp only [Option.bind_some]
      rw [if_pos (by omega), orders_eq n hn r k (o ++ [(i : Int)]) (by simp; omega) (by omega)]
      simp only [Option.bind_some]
      rw [if_pos (by omega), wrap_succ i (by omega), ← hs]
      exact orders_l0 n hn r d k (i + 1) o ho (by omega) (by omega)
  termination_by d => (r, d + 1)
end
def updG (t d : List Int) (σ : List Int × Int) (o : List Int) : List Int × Int := updF t d o σ
theorem choose_eq (t d : List Int) : ∀ (r : Nat) (o : List Int) (σ : List Int × Int), chooseM t d r o σ = (ordersM t.length r o).foldl (updG t d) σ
  | 0, o, σ => rfl
  | r + 1, o, σ => by
    rw [chooseM_succ, ordersM_succ]
    have h : ∀ i, (List.range i).foldl (stepF t d r o) σ = (ordP t.length r o i).foldl (updG t d) σ := by
      intro i
      induction i with
      | zero => rfl
      | succ i ih =>
        rw [fold_succ, ih, ordP_succ]
        unfold stepF
        split
        · rfl
        · rw [choose_eq t d r, List.foldl_append]
    exact h t.length
theorem few_l0 (t d : List Int) (all : List (List Int)) (hn : t.length ≤ 7) (hd : t.length = d.length) (ha : ∀ x ∈ all, inds x t.length ∧ x.length = t.length) (hal : all.length ≤ 1048576) :
    ∀ (m k j : Nat) (b : List Int) (f : Int), j + m = all.length → m + 10 < k → 0 ≤ f → spec_FewestLate.l0 k t d all b f j = some (((all.drop j).foldl (updG t d) (b, f)).1, ((all.drop j).foldl (updG t d) (b, f)).2, 0)
  | 0, k, j, b, f, hm, hk, hf => by
    obtain ⟨k, rfl⟩ := some_k (show 0 < k by omega)
    simp only [spec_FewestLate.l0]
    rw [if_neg (by omega), List.drop_eq_nil_of_le (by omega)]
    rfl
  | m + 1, k, j, b, f, hm, hk, hf => by
    obtain ⟨k, rfl⟩ := some_k (show 0 < k by omega)
    simp only [spec_FewestLate.l0]
    have hj : j < all.length := by omega
    have e : rd_L1 all j = all[j] := by simp [rd_L1, List.getD_eq_getElem?_getD, List.getElem?_eq_getElem hj]
    have hmem : all[j] ∈ all := List.getElem_mem hj
    obtain ⟨h1, h2⟩ := ha _ hmem
    rw [if_pos (by omega), if_pos (by omega), e, spec_late_eq t d _ (by omega) h1 (by rw [← hd]; exact h1) (by omega)]
    simp only [Option.bind_some]
    rw [List.drop_eq_getElem_cons hj, List.foldl_cons]
    generalize all[j] = o
    by_cases hlt : ((lateL t d 0 o).length : Int) < f
    · rw [if_pos hlt, wrap_succ j (by omega), few_l0 t d all hn hd ha hal m k (j + 1) _ _ (by omega) (by omega) (by omega)]
      rw [show updG t d (b, f) o = (o, ((lateL t d 0 o).length : Int)) from if_pos (Or.inr hlt)]
    · rw [if_neg hlt, wrap_succ j (by omega), few_l0 t d all hn hd ha hal m k (j + 1) _ _ (by omega) (by omega) (by omega)]
      rw [show updG t d (b, f) o = (b, f) from if_neg (by rintro (h | h); exact absurd h (by simp; omega); exact hlt h)]
theorem first_eq (t d o : List Int) : updG t d ([], -1) o = (o, ((lateL t d 0 o).length : Int)) := by
  unfold updG updF
  exact if_pos (Or.inl (show (-1 : Int) < 0 by decide))
theorem spec_few_eq {k : Nat} (t d : List Int) (hl : t.length ≤ 1048576) (hl2 : d.length ≤ 1048576) (hk : t.length + d.length + 1000000 < k) : spec_FewestLate.f k t d = some (fewC t d) := by
  unfold spec_FewestLate.f fewC
  rw [dues_eq t d hl2 (by omega)]
  simp only [Option.bind_some]
  rw [spec_times_eq t _ 7 (by omega) hl (by omega)]
  simp only [Option.bind_some]
  by_cases hz : timesC (duesB t d) t 7 = 0
  · obtain ⟨hb, _, h7⟩ := timesC_zero hz
    have hdl := duesB_len hb
    have h7' : t.length ≤ 7 := by omega
    rw [if_pos hz, if_pos hz, orders_eq t.length h7' t.length k [] (by simp) (by omega), choose_eq]
    simp only [Option.bind_some]
    have hm := orders_mem t.length t.length [] (fun x hx => absurd hx (by simp))
    have hp := orders_pos t.length t.length [] (by simp)
    have hlen := orders_len t.length h7' t.length []
    have h3 := pow7 t.length h7'
    simp only [List.length_nil, Nat.zero_add] at hm
    generalize ordersM t.length t.length [] = all at hm hp hlen
    rw [if_pos (by omega)]
    cases all with
    | nil => simp at hp
    | cons o os =>
      obtain ⟨h1, h2⟩ := hm o (List.mem_cons_self ..)
      have e : rd_L1 (o :: os) 0 = o := rfl
      rw [e, spec_late_eq t d _ (by omega) h1 (by rw [← hdl]; exact h1) (by omega)]
      simp only [Option.bind_some]
      have := few_l0 t d (o :: os) h7' hdl hm (by omega) os.length k 1 o ((lateL t d 0 o).length : Int) (by simp; omega) (by simp at hlen; omega) (by omega)
      rw [show ((1 : Nat) : Int) = 1 from rfl] at this
      rw [this]
      rw [List.foldl_cons, show updG t d ([], -1) o = (o, ((lateL t d 0 o).length : Int)) from first_eq t d o]
      rfl
  · rw [if_neg hz, if_neg hz]
open Go.RowKit Go.Proofs.YtcibhhkpnakkgaaW.PrintWords Go.Proofs.YtcibhhkpnakkgaaW.PrintMore Go.Proofs.Ytcibhhkpnakkgaa.Q Go.Proofs.Ytcibhhkpnakkgaa.Ext
set_option linter.unusedVariables false
set_option linter.unusedSimpArgs false
structure Dys (t : List Int) (day : Int) (X : List Int) (N : Int) : Prop where
  len : X.length = t.length
  n0 : 0 ≤ N ∧ N ≤ t.length
  mem : ∀ y ∈ X, 0 ≤ y ∧ y < N
  adj : ∀ i, i + 1 < X.length → rd X ((i + 1 : Nat) : Int) = rd X (i : Int) ∨ rd X ((i + 1 : Nat) : Int) = rd X (i : Int) + 1
  held : ∀ i k, finF (t.take i) (X.take i) (fun _ => 0) k ≤ day
  all : sumL t ≤ N * day
theorem gr_mem (m : Int) : ∀ (l : List Int) (c s : Int), ∀ y ∈ greedyI m c s l, c ≤ y ∧ y ≤ lastI m c s l
  | [], c, s, y, h => by simp [greedyI] at h
  | t :: ts, c, s, y, h => by
    unfold greedyI at h
    unfold lastI
    by_cases hm : m < s + t
    · rw [if_pos hm] at h ⊢
      have hb := (lastI_bd m (c + 1) t ts).1
      rcases List.mem_cons.1 h with rfl | h
      · omega
      · have := gr_mem m ts (c + 1) t y h; omega
    · rw [if_neg hm] at h ⊢
      have hb := (lastI_bd m c (s + t) ts).1
      rcases List.mem_cons.1 h with rfl | h
      · omega
      · exact gr_mem m ts c (s + t) y h
theorem gr_adj (m : Int) : ∀ (l : List Int) (c s : Int), (0 < (greedyI m c s l).length → rd (greedyI m c s l) ((0 : Nat) : Int) = c ∨ rd (greedyI m c s l) ((0 : Nat) : Int) = c + 1) ∧
    ∀ i, i + 1 < (greedyI m c s l).length → rd (greedyI m c s l) ((i + 1 : Nat) : Int) = rd (greedyI m c s l) (i : Int) ∨ rd (greedyI m c s l) ((i + 1 : Nat) : Int) = rd (greedyI m c s l) (i : Int) + 1
  | [], c, s => by simp [greedyI]
  | t :: ts, c, s => by
    unfold greedyI
    by_cases hm : m < s + t
    · rw [if_pos hm]
      obtain ⟨a, b⟩ := gr_adj m ts (c + 1) t
      refine ⟨fun _ => Or.inr (rd_cons_zero _ _), fun i hi => ?_⟩
      rw [rd_cons_succ]
      cases i with
      | zero => rw [rd_cons_zero]; exact a (by simpa using hi)
      | succ i => rw [rd_cons_succ]; exact b i (by simpa using hi)
    · rw [if_neg hm]
      obtain ⟨a, b⟩ := gr_adj m ts c (s + t)
      refine ⟨fun _ => Or.inl (rd_cons_zero _ _), fun i hi => ?_⟩
      rw [rd_cons_succ]
      cases i with
      | zero => rw [rd_cons_zero]; exact a (by simpa using hi)
      | succ i => rw [rd_cons_succ]; exact b i (by simpa using hi)
theorem gr_held (m : Int) : ∀ (l : List Int) (c : Nat) (s : Int) (f : Nat → Int), (∀ x ∈ l, 0 ≤ x ∧ x ≤ m) → f c = s → (∀ k, c < k → f k = 0) → (∀ k, f k ≤ m) → ∀ i k, finF (l.take i) ((greedyI m c s l).take i) f k ≤ m
  | [], c, s, f, _, _, _, hf, i, k => by simp only [List.take_nil]; rw [finF_nil]; exact hf k
  | t :: ts, c, s, f, hx, hc, hz, hf, 0, k => by simp only [List.take_zero]; rw [finF_nil]; exact hf k
  | t :: ts, c, s, f, hx, hc, hz, hf, i + 1, k => by
    obtain ⟨t0, t1⟩ := hx t (List.mem_cons_self ..)
    have hxs := fun y hy => hx y (List.mem_cons_of_mem _ hy)
    unfold greedyI
    by_cases hm : m < s + t
    · rw [if_pos hm, List.take_succ_cons, List.take_succ_cons]
      have h1 : f (c + 1) = 0 := hz (c + 1) (by omega)
      show finF (ts.take i) _ (up f ((c : Int) + 1).toNat (f ((c : Int) + 1).toNat + t)) k ≤ m
      rw [show ((c : Int) + 1).toNat = c + 1 by omega, h1, Int.zero_add, show (c : Int) + 1 = ((c + 1 : Nat) : Int) by omega]
      refine gr_held m ts (c + 1) t _ hxs (by unfold up; rw [if_pos rfl]) (fun q hq => by unfold up; rw [if_neg (by omega)]; exact hz q (by omega)) (fun q => ?_) i k
      unfold up
      split
      · exact t1
      · exact hf q
    · rw [if_neg hm, List.take_succ_cons, List.take_succ_cons]
      show finF (ts.take i) _ (up f ((c : Int)).toNat (f ((c : Int)).toNat + t)) k ≤ m
      rw [Int.toNat_natCast, hc]
      refine gr_held m ts c (s + t) _ hxs (by unfold up; rw [if_pos rfl]) (fun q hq => by unfold up; rw [if_neg (by omega)]; exact hz q hq) (fun q => ?_) i k
      unfold up
      split
      · omega
      · exact hf q
theorem dys_is (t : List Int) (day : Int) (hb : timesB t = true) (hd : 0 ≤ day) (hle : ∀ x ∈ t, x ≤ day) : Dys t day (greedyI day 0 0 t) (if t.length = 0 then 0 else lastI day 0 0 t + 1) := by
  have hm := timesB_mem hb
  have hlen := greedyI_len day 0 0 t
  have hbd := lastI_bd day 0 0 t
  have hheld : ∀ i k, finF (t.take i) ((greedyI day 0 0 t).take i) (fun _ => 0) k ≤ day := gr_held day t 0 0 (fun _ => 0) (fun x hx => ⟨by have := hm x hx; omega, hle x hx⟩) rfl (fun _ _ => rfl) (fun _ => hd)
  have hmem : ∀ y ∈ greedyI day 0 0 t, 0 ≤ y ∧ y < (if t.length = 0 then 0 else lastI day 0 0 t + 1) := fun y hy => by
    have h := gr_mem day t 0 0 y hy
    have : 0 < (greedyI day 0 0 t).length := List.length_pos_of_mem hy
    rw [if_neg (by omega)]; omega
  have hN : 0 ≤ (if t.length = 0 then 0 else lastI day 0 0 t + 1) ∧ (if t.length = 0 then 0 else lastI day 0 0 t + 1) ≤ (t.length : Int) := by
    by_cases h0 : t.length = 0
    · rw [if_pos h0]; omega
    · rw [if_neg h0]
      refine ⟨by omega, ?_⟩
      cases t with
      | nil => simp at h0
      | cons x xs =>
        have hx := hle x (List.mem_cons_self ..)
        unfold lastI
        rw [if_neg (by omega)]
        have := (lastI_bd day 0 (0 + x) xs).2
        rw [List.length_cons]; omega
  refine ⟨hlen, hN, hmem, (gr_adj day t 0 0).2, hheld, ?_⟩
  obtain ⟨N, hNe⟩ : ∃ N : Nat, (if t.length = 0 then 0 else lastI day 0 0 t + 1) = (N : Int) := ⟨(if t.length = 0 then 0 else lastI day 0 0 t + 1).toNat, by omega⟩
  rw [hNe] at hmem ⊢
  have h1 := fin_sum N t (greedyI day 0 0 t) (fun _ => 0) hlen hmem
  rw [sumN_zero, Int.zero_add] at h1
  have h2 := sumN_le (finF t (greedyI day 0 0 t) (fun _ => 0)) day (fun k => by
    have := hheld t.length k
    rwa [List.take_length, List.take_of_length_le (Nat.le_of_eq hlen)] at this) N
  rw [h1] at h2
  rw [Int.mul_comm]
  exact h2
theorem sumL_take (t : List Int) (i : Nat) (h : i < t.length) : sumL (t.take (i + 1)) = sumL (t.take i) + rd t (i : Int) := by
  have app : ∀ (xs : List Int) (y : Int), sumL (xs ++ [y]) = sumL xs + y := by
    intro xs
    induction xs with
    | nil => intro y; simp [sumL]
    | cons x xs ih => intro y; rw [List.cons_append]; simp only [sumL]; rw [ih]; omega
  rw [take_rd t i h, app]
theorem sumL_take_bd (t : List Int) (hb : timesB t = true) (hl : t.length ≤ 12) : ∀ i, i ≤ t.length → 0 ≤ sumL (t.take i) ∧ sumL (t.take i) ≤ 100000 * i := by
  intro i
  induction i with
  | zero => intro _; simp [sumL]
  | succ i ih =>
    intro hi
    rw [sumL_take t i (by omega)]
    have := ih (by omega)
    have := times_rd hb i (by omega)
    omega
def rngI (a r : Nat) : List Int := (List.range' a r).map fun (i : Nat) => (i : Int)
theorem rngI_succ (a r : Nat) : rngI a (r + 1) = (a : Int) :: rngI (a + 1) r := by unfold rngI; rw [List.range'_succ]; rfl
theorem upto_rng (n : Nat) : upto n = rngI 0 n := by unfold upto rngI; rw [List.range_eq_range']
theorem late_mem (t d : List Int) (hb : timesB t = true) (hl : t.length ≤ 12) : ∀ (r a : Nat), a + r ≤ t.length → ∀ i : Nat, (i : Int) ∈ lateL t d (sumL (t.take a)) (rngI a r) ↔ a ≤ i ∧ i < a + r ∧ rd d (i : Int) < sumL (t.take (i + 1))
  | 0, a, _, i => by
    have : rngI a 0 = [] := rfl
    rw [this]
    simp [lateL]
    omega
  | r + 1, a, h, i => by
    have hbd := sumL_take_bd t hb hl (a + 1) (by omega)
    have hs := sumL_take t a (by omega)
    have hw : wrap64 (sumL (t.take a) + rd t (a : Int)) = sumL (t.take (a + 1)) := by rw [← hs]; exact w64 (by omega) (by omega)
    have ih := late_mem t d hb hl r (a + 1) (by omega) i
    rw [rngI_succ]
    unfold lateL
    rw [hw]
    by_cases hc : sumL (t.take (a + 1)) > rd d (a : Int)
    · rw [if_pos hc, List.mem_cons, ih]
      constructor
      · rintro (e | ⟨h1, h2, h3⟩)
        · obtain rfl : i = a := by omega
          exact ⟨Nat.le_refl _, by omega, hc⟩
        · exact ⟨by omega, by omega, h3⟩
      · rintro ⟨h1, h2, h3⟩
        by_cases e : i = a
        · exact Or.inl (by rw [e])
        · exact Or.inr ⟨by omega, by omega, h3⟩
    · rw [if_neg hc, ih]
      constructor
      · rintro ⟨h1, h2, h3⟩; exact ⟨by omega, by omega, h3⟩
      · rintro ⟨h1, h2, h3⟩
        by_cases e : i = a
        · subst e; omega
        · exact ⟨by omega, by omega, h3⟩
theorem late_has (t d : List Int) (hb : timesB t = true) (hl : t.length ≤ 12) (i : Nat) (hi : i < t.length) : (lateL t d 0 (upto t.length)).any (fun y => (i : Int) == y) = decide (rd d (i : Int) < sumL (t.take (i + 1))) := by
  rw [Bool.eq_iff_iff, any_mem, decide_eq_true_iff, upto_rng]
  have := late_mem t d hb hl t.length 0 (by omega) i
  rw [show sumL (t.take 0) = 0 by simp [sumL]] at this
  rw [this]
  constructor
  · exact fun h => h.2.2
  · exact fun h => ⟨Nat.zero_le _, by omega, h⟩
structure Few (t d : List Int) (o : List Int) (c : Int) : Prop where
  len : o.length = t.length
  ind : inds o t.length
  val : c = lateN t d o
  least : c ≤ lateN t d (upto t.length)
theorem fold_few (t d : List Int) : ∀ (l : List (List Int)) (σ : List Int × Int), (σ.2 < 0 ∨ ∃ o, σ = (o, lateN t d o)) → (l ≠ [] ∨ ¬ σ.2 < 0) →
    (∃ o, (o ∈ l ∨ o = σ.1) ∧ l.foldl (updG t d) σ = (o, lateN t d o) ∧ (σ.2 < 0 → o ∈ l)) ∧ (∀ o ∈ l, (l.foldl (updG t d) σ).2 ≤ lateN t d o) ∧ (¬ σ.2 < 0 → (l.foldl (updG t d) σ).2 ≤ σ.2)
  | [], σ, h1, h2 => by
    rcases h2 with h2 | h2
    · exact absurd rfl h2
    · rcases h1 with h1 | ⟨o, ho⟩
      · exact absurd h1 h2
      · refine ⟨⟨o, Or.inr (by rw [ho]), ho, fun h => absurd h h2⟩, by simp, fun _ => Int.le_refl _⟩
  | x :: l, σ, h1, h2 => by
    rw [List.foldl_cons]
    have hn : 0 ≤ lateN t d x := by unfold lateN; omega
    by_cases hc : σ.2 < 0 ∨ lateN t d x < σ.2
    · have e : updG t d σ x = (x, lateN t d x) := if_pos hc
      rw [e]
      obtain ⟨⟨o, ho, hf, _⟩, hl, hs⟩ := fold_few t d l (x, lateN t d x) (Or.inr ⟨x, rfl⟩) (Or.inr (by show ¬ lateN t d x < 0; omega))
      have hs' := hs (by show ¬ lateN t d x < 0; omega)
      have hs2 : (l.foldl (updG t d) (x, lateN t d x)).2 ≤ lateN t d x := hs'
      have hox : o ∈ x :: l := by
        rcases ho with ho | ho
        · exact List.mem_cons_of_mem _ ho
        · rw [ho]; exact List.mem_cons_self ..
      refine ⟨⟨o, Or.inl hox, hf, fun _ => hox⟩, fun y hy => ?_, fun h => by omega⟩
      rcases List.mem_cons.1 hy with rfl | hy
      · exact hs2
      · exact hl y hy
    · have e : updG t d σ x = σ := if_neg hc
      rw [e]
      have h0 : ¬ σ.2 < 0 := fun h => hc (Or.inl h)
      obtain ⟨⟨o, ho, hf, hi⟩, hl, hs⟩ := fold_few t d l σ h1 (Or.inr h0)
      refine ⟨⟨o, ho.elim (fun h => Or.inl (List.mem_cons_of_mem _ h)) Or.inr, hf, fun h => absurd h h0⟩, fun y hy => ?_, hs⟩
      rcases List.mem_cons.1 hy with rfl | hy
      · have := hs h0; omega
      · exact hl y hy
theorem ord_upto (n : Nat) : ∀ (r j : Nat), j + r = n → upto n ∈ ordersM n r (upto j)
  | 0, j, h => by
    obtain rfl : j = n := by omega
    simp [ordersM]
  | r + 1, j, h => by
    have ih := ord_upto n r (j + 1) (by omega)
    have hni : ¬ (j : Int) ∈ upto j := by
      intro hm
      have := inds_upto j _ hm
      omega
    have hP : ∀ m, j < m → upto n ∈ ordP n r (upto j) m := by
      intro m
      induction m with
      | zero => intro h; omega
      | succ m ihm =>
        intro hm
        rw [ordP_succ]
        by_cases e : j = m
        · subst e
          rw [if_neg (by rw [any_mem]; exact hni)]
          exact List.mem_append_right _ (by rw [← upto_succ]; exact ih)
        · have := ihm (by omega)
          split
          · exact this
          · exact List.mem_append_left _ this
    exact hP n (by omega)
theorem few_is (t d : List Int) : Few t d (chooseM t d t.length [] ([], -1)).1 (chooseM t d t.length [] ([], -1)).2 := by
  rw [choose_eq]
  have hpos := orders_pos t.length t.length [] (by simp)
  have hne : ordersM t.length t.length [] ≠ [] := fun h => by rw [h] at hpos; simp at hpos
  obtain ⟨⟨o, _, hf, hi⟩, hl, _⟩ := fold_few t d (ordersM t.length t.length []) ([], -1) (Or.inl (by decide)) (Or.inl hne)
  have ho := hi (by decide)
  obtain ⟨m1, m2⟩ := orders_mem t.length t.length [] (by intro i h; simp at h) o ho
  have hu := hl _ (ord_upto t.length t.length 0 (by omega))
  rw [hf] at hu ⊢
  exact ⟨by simpa using m2, m1, rfl, hu⟩
theorem late_turn (t d u e : List Int) : ∀ (o : List Int) (a : Nat) (now : Int), (∀ i, i < o.length → rd u ((a + i : Nat) : Int) = rd t (rd o (i : Int)) ∧ rd e ((a + i : Nat) : Int) = rd d (rd o (i : Int))) → (lateL u e now (rngI a o.length)).length = (lateL t d now o).length
  | [], a, now, _ => rfl
  | x :: o, a, now, h => by
    obtain ⟨h1, h2⟩ := h 0 (by simp)
    rw [rd_cons_zero, Nat.add_zero] at h1 h2
    rw [List.length_cons, rngI_succ]
    unfold lateL
    rw [h1, h2]
    have ih := late_turn t d u e o (a + 1) (wrap64 (now + rd t x)) (fun i hi => by
      have := h (i + 1) (by simpa using hi)
      rw [rd_cons_succ] at this
      rw [show a + 1 + i = a + (i + 1) by omega]
      exact this)
    split
    · rw [List.length_cons, List.length_cons, ih]
    · exact ih
open Go.RowKit Go.Proofs.Ytcibhhkpnakkgaa.Ext Go.Proofs.Ytcibhhkpnakkgaa.Q Go.Proofs.YtcibhhkpnakkgaaW.PrintWords Go.Proofs.YtcibhhkpnakkgaaW.PrintLast Go.Proofs.YtcibhhkpnakkgaaW.PrintMore
theorem times_mem {l : List Int} (h : timesB l = true) : ∀ x ∈ l, 1 ≤ x ∧ x ≤ 100000 := fun x hx => inB_iff.1 (List.all_eq_true.1 h x hx)
theorem lines_l0 (t : List Int) (n : Int) (mx0 : Int) (hb : timesB t = true) (hl : t.length ≤ 12) (hp : 0 < t.length) : ∀ (d k : Nat) (lo hi : Int), hi - lo ≤ d → d + t.length + 2 < k → 0 ≤ mx0 → mx0 ≤ lo → lo ≤ hi → hi ≤ 1200000 → lastI hi 0 0 t < n → (∀ v, mx0 ≤ v → v < lo → ¬ lastI v 0 0 t < n) →
    ∃ M, impl_ShareLines.l0 k t n lo hi = some (greedyI M 0 0 t, M, 0) ∧ mx0 ≤ M ∧ lastI M 0 0 t < n ∧ ∀ v, mx0 ≤ v → v < M → ¬ lastI v 0 0 t < n := by
  intro d
  induction d with
  | zero =>
    intro k lo hi hd hk h0 hm hlh hh hf hn
    obtain ⟨k, rfl⟩ := some_k (show 0 < k by omega)
    obtain rfl : lo = hi := by omega
    refine ⟨lo, ?_, hm, hf, hn⟩
    simp only [impl_ShareLines.l0]
    rw [if_neg (by omega), order_eq t lo hb hl (by omega)]
    rfl
  | succ d ih =>
    intro k lo hi hd hk h0 hm hlh hh hf hn
    by_cases e : lo < hi
    · obtain ⟨k, rfl⟩ := some_k (show 0 < k by omega)
      simp only [impl_ShareLines.l0]
      obtain ⟨mid, hmid⟩ : ∃ mid, (lo + hi) / 2 = mid := ⟨_, rfl⟩
      have hmm : wrap64 (Int.tdiv (wrap64 (lo + hi)) 2) = mid := by
        rw [w64 (x := lo + hi) (by omega) (by omega), Int.tdiv_eq_ediv_of_nonneg (by omega), hmid, w64 (by omega) (by omega)]
      rw [if_pos e, hmm, order_eq t mid hb hl (by omega)]
      simp only [Option.bind_some, greedyI_len]
      have hlen : wrap64 ((t.length : Int) - 1) = ((t.length - 1 : Nat) : Int) := by rw [w64 (by omega) (by omega)]; omega
      rw [hlen, if_pos (by omega), if_pos (by omega), greedyI_last _ _ _ _ hp]
      by_cases c : lastI mid 0 0 t < n
      · rw [if_pos c]
        exact ih k lo mid (by omega) (by omega) h0 hm (by omega) (by omega) c hn
      · rw [if_neg c, w64 (by omega) (by omega)]
        refine ih k (mid + 1) hi (by omega) (by omega) h0 (by omega) (by omega) hh hf (fun v hv1 hv2 hv3 => c ?_)
        have := last_mono v mid (by omega) t 0 0 0 0 (fun x hx => by have := times_mem hb x hx; omega) (by omega) (by unfold lexle; omega)
        omega
    · obtain ⟨k, rfl⟩ := some_k (show 0 < k by omega)
      obtain rfl : lo = hi := by omega
      refine ⟨lo, ?_, hm, hf, hn⟩
      simp only [impl_ShareLines.l0]
      rw [if_neg (by omega), order_eq t lo hb hl (by omega)]
      rfl
theorem foldMax_le_sum (t : List Int) (hb : timesB t = true) (hp : 0 < t.length) : 0 ≤ foldMax t ∧ foldMax t ≤ sumL t := by
  obtain ⟨h1, h2⟩ := foldMax_spec t hp
  have h3 := times_mem hb
  refine ⟨by have := h3 _ h1; omega, ?_⟩
  have : ∀ (l : List Int), (∀ x ∈ l, 0 ≤ x) → 0 ≤ sumL l ∧ ∀ x ∈ l, x ≤ sumL l := by
    intro l
    induction l with
    | nil => intro _; exact ⟨by simp [sumL], fun x hx => absurd hx (by simp)⟩
    | cons y ys ih =>
      intro hy
      obtain ⟨a, b⟩ := ih (fun x hx => hy x (List.mem_cons_of_mem _ hx))
      have := hy y (List.mem_cons_self ..)
      rw [sumL]
      refine ⟨by omega, fun x hx => ?_⟩
      rcases List.mem_cons.1 hx with e | e
      · subst e; omega
      · have := b x e; omega
  exact (this t (fun x hx => by have := h3 x hx; omega)).2 _ h1
theorem impl_lines_eq {k : Nat} (t : List Int) (n : Int) (hz : timesC (inB n 1 6) t 12 = 0) (hp : 0 < t.length) (hk : 1200100 < k) :
    ∃ M, impl_ShareLines.f k t n = some (greedyI M 0 0 t, M, 0) ∧ foldMax t ≤ M ∧ lastI M 0 0 t < n ∧ ∀ v, foldMax t ≤ v → v < M → ¬ lastI v 0 0 t < n := by
  obtain ⟨hin, hb, hl⟩ := timesC_zero hz
  obtain ⟨hn1, hn2⟩ := inB_iff.1 hin
  have hs := sumL_bd t hb
  have hm := foldMax_le_sum t hb hp
  have hf : lastI (sumL t) 0 0 t < n := by
    rw [last_one (sumL t) t 0 0 (fun x hx => by have := times_mem hb x hx; omega) (by omega)]
    omega
  obtain ⟨M, h1, h2, h3, h4⟩ := lines_l0 t n (foldMax t) hb (by omega) hp 1200000 k (foldMax t) (sumL t) (by omega) (by omega) hm.1 (Int.le_refl _) hm.2 (by omega) hf (fun v a b => by omega)
  refine ⟨M, ?_, h2, h3, h4⟩
  unfold impl_ShareLines.f
  rw [impl_times_eq, hz, Option.bind_some, if_pos rfl, if_neg (by omega)]
  unfold slices_Max_int64_int64.f
  rw [if_pos hp]
  simp only [Option.bind_some]
  rw [total_eq t hb (by omega) (by omega)]
  exact h1
theorem spec_lines_eq {k : Nat} (t : List Int) (n M : Int) (hz : timesC (inB n 1 6) t 12 = 0) (hp : 0 < t.length) (hk : t.length < k) (h1 : foldMax t ≤ M) (h2 : lastI M 0 0 t < n) (h3 : ∀ v, foldMax t ≤ v → v < M → ¬ lastI v 0 0 t < n) : spec_ShareLines.f k t n = some (greedyI M 0 0 t, M, 0) := by
  obtain ⟨hin, hb, hl⟩ := timesC_zero hz
  obtain ⟨hn1, hn2⟩ := inB_iff.1 hin
  unfold spec_ShareLines.f
  rw [cutters_eq]
  simp only [Option.bind_some]
  rw [spec_times_eq t _ 12 (by omega) (by omega) hk]
  simp only [Option.bind_some]
  rw [if_pos hz]
  unfold spec_l05Shared.f
  rw [if_pos ⟨by omega, by omega, by omega⟩]
  obtain ⟨cut, rfl⟩ := Int.eq_ofNat_of_zero_le (show 0 ≤ n by omega)
  rw [Int.toNat_natCast]
  have hmx := foldMax_spec t hp
  have hm0 := foldMax_le_sum t hb hp
  have htm := times_mem hb
  have e0 : (fun (q : Nat) => rd (List.replicate cut (0 : Int)) (q : Int)) = fun _ => 0 := by
    funext q
    simp [rd, List.getD_eq_getElem?_getD, List.getElem?_replicate]
    split <;> rfl
  have hg : giveC t cut true = (greedyI M 0 0 t, M) := by
    unfold giveC
    rw [give_srch t cut true hb (by omega) t.length [] (List.replicate cut 0) 0 ([], -1) (by simp) (by simp) (by
      intro k hk
      have : rd (List.replicate cut (0 : Int)) (k : Int) = 0 := congrFun e0 k
      rw [this]; simp), e0]
    have := srch_greedy cut M t [] (fun _ => 0) 0 ([], -1) 0 (by unfold fromG; simp) (by omega) (fun x hx => ⟨by have := htm x hx; omega, by have := hmx.2 x hx; omega⟩) (Int.le_refl _) (by omega) (fun k hk => rfl)
      (fun v hv => by
        apply Classical.byContradiction
        intro hlt
        have ha := reach_mx cut true v t 0 (fun _ => 0) 0 (fun x hx => by have := htm x hx; omega) (fun _ => Int.le_refl _) hv
        exact h3 v (ha _ hmx.1) (by omega) (reach_feas cut v t 0 (fun _ => 0) 0 0 0 (fun x hx => by have := htm x hx; omega) (by omega) (fun _ => Int.le_refl _) (fun _ _ => rfl) (by unfold lexle; simp) hv))
      h2 (Or.inl (show (-1 : Int) < 0 by decide))
    simpa using this
  rw [hg]
  rfl
theorem lines_same (t : List Int) (n : Int) (hl : t.length ≤ 1048576) : ∃ r : List Int × Int × Int, r.1.length ≤ t.length ∧ (∀ k, t.length + 1200200 < k → spec_ShareLines.f k t n = some r) ∧ (∀ k, t.length + 1200200 < k → impl_ShareLines.f k t n = some r) := by
  by_cases hz : timesC (inB n 1 6) t 12 = 0
  · obtain ⟨hin, hb, hl12⟩ := timesC_zero hz
    obtain ⟨hn1, hn2⟩ := inB_iff.1 hin
    by_cases hp : 0 < t.length
    · obtain ⟨M, _, h1, h2, h3⟩ := impl_lines_eq (k := t.length + 1200201) t n hz hp (by omega)
      refine ⟨(greedyI M 0 0 t, M, 0), by rw [greedyI_len]; exact Nat.le_refl _, fun k hk => spec_lines_eq t n M hz hp (by omega) h1 h2 h3, fun k hk => ?_⟩
      obtain ⟨M', e, h1', h2', h3'⟩ := impl_lines_eq (k := k) t n hz hp (by omega)
      have : M' = M := by
        rcases Int.lt_trichotomy M' M with h | h | h
        · exact absurd h2' (h3 M' h1' h)
        · exact h
        · exact absurd h2 (h3' M h1 h)
      rw [e, this]
    · have : t = [] := List.length_eq_zero_iff.1 (by omega)
      subst this
      refine ⟨([], 0, 0), by simp, fun k hk => ?_, fun k hk => ?_⟩
      · unfold spec_ShareLines.f
        rw [cutters_eq]
        simp only [Option.bind_some]
        rw [spec_times_eq [] _ 12 (by omega) (by simp) (by simp; omega)]
        simp only [Option.bind_some]
        rw [if_pos hz]
        unfold spec_l05Shared.f
        rw [if_pos ⟨by omega, by omega, by simp⟩]
        rfl
      · unfold impl_ShareLines.f
        rw [impl_times_eq, hz, Option.bind_some, if_pos rfl, if_pos (by simp)]
  · refine ⟨([], 0, timesC (inB n 1 6) t 12), by simp, fun k hk => ?_, fun k hk => ?_⟩
    · unfold spec_ShareLines.f
      rw [cutters_eq]
      simp only [Option.bind_some]
      rw [spec_times_eq t _ 12 (by omega) hl (by omega)]
      simp only [Option.bind_some]
      rw [if_neg hz]
    · unfold impl_ShareLines.f
      rw [impl_times_eq]
      simp only [Option.bind_some]
      rw [if_neg hz]
end Go.Proofs.Ytcibhhkpnakkgaa.Pure
namespace Go.Proofs.Ytcibhhkpnakkgaa.Ext
end Go.Proofs.Ytcibhhkpnakkgaa.Ext
namespace Go.Proofs.Ytcibhhkpnakkgaa.Q
open Go.Proofs.Ytcibhhkpnakkgaa.Ext
open Go.RowKit Go.Proofs.YtcibhhkpnakkgaaW.PrintWords Go.Proofs.YtcibhhkpnakkgaaW.PrintLast Go.Proofs.YtcibhhkpnakkgaaW.PrintMore
attribute [local go_sem] max2_int min2_int max_two min_two max_three min_three max_four min_four
set_option linter.unusedVariables false
set_option linter.unusedSimpArgs false
def IsS56 (w0 W : World) (g : Nat) (f0 : List Int) (f1 : Int) (f2 : Int) : Prop := ∃ A0 c0, W.heap[g]? = some (.cells #[.slice A0 f0.length c0, .int .i64 f1, .int .u64 f2] 56 (0, 0)) ∧ w0.heap.size ≤ g ∧ Kd.C (Kd.int .u8) w0 A0 f0.length f0
theorem IsS56.grown {w0 W : World} {g : Nat} {f0 : List Int} {f1 : Int} {f2 : Int} {W1 : World} {row : Option Nat} (h : IsS56 w0 W g f0 f1 f2) (hw : W.grownBy W1 row) (hne : some g ≠ row) : IsS56 w0 W1 g f0 f1 f2 := by
  obtain ⟨A0, c0, hb, hg, hr0⟩ := h
  exact ⟨A0, c0, blk_grown hb hw hne, hg, hr0⟩
theorem IsS56.fresh {w0 W : World} {g : Nat} {f0 : List Int} {f1 : Int} {f2 : Int} (h : IsS56 w0 W g f0 f1 f2) : ∀ k, W.heap.size ≤ k → k ≠ g := by
  obtain ⟨A0, c0, hb, hg, hr0⟩ := h
  exact Kd.freshB hb
theorem IsS56.kept {w0 W : World} {g : Nat} {f0 : List Int} {f1 : Int} {f2 : Int} {W1 : World} {S : Nat → Prop} (h : IsS56 w0 W g f0 f1 f2) (hk : Kept W W1 S) (hne : ¬ S g) : IsS56 w0 W1 g f0 f1 f2 := by
  obtain ⟨A0, c0, hb, hg, hr0⟩ := h
  exact ⟨A0, c0, blk_kept hb hk hne, hg, hr0⟩
theorem IsS56.below {w0 W : World} {g : Nat} {f0 : List Int} {f1 : Int} {f2 : Int} {W1 : World} (h : IsS56 w0 W g f0 f1 f2) (hw : Below W.heap.size W W1) : IsS56 w0 W1 g f0 f1 f2 := h.grown (grown_of_below hw none) (by simp)
theorem IsS56.alloc {w0 W : World} {g : Nat} {f0 : List Int} {f1 : Int} {f2 : Int} (h : IsS56 w0 W g f0 f1 f2) (o : Obj) : IsS56 w0 (W.alloc o) g f0 f1 f2 := h.below (below_alloc (Below.refl _ _) o)
theorem IsS56.drewN {w0 W : World} {g : Nat} {f0 : List Int} {f1 : Int} {f2 : Int} (h : IsS56 w0 W g f0 f1 f2) (m : Nat) : IsS56 w0 (W.drewN m) g f0 f1 f2 := h
theorem IsS56.drew {w0 W : World} {g : Nat} {f0 : List Int} {f1 : Int} {f2 : Int} (h : IsS56 w0 W g f0 f1 f2) : IsS56 w0 W.drew g f0 f1 f2 := h
theorem IsS56.at_ {w0 W : World} {g : Nat} {f0 : List Int} {f1 : Int} {f2 : Int} {w' : World} {m : Nat} (hq : W.drewN m = w') (h : IsS56 w0 W g f0 f1 f2) : IsS56 w0 w' g f0 f1 f2 := by subst hq; exact IsS56.drewN h m
theorem IsS56.apart {w0 W : World} {g : Nat} {f0 : List Int} {f1 : Int} {f2 : Int} {α : Type} {d : Kd α} {e : Nat} {base : Nat} {ok : Nat → Prop} {v : Value} {xs : List α} (h : IsS56 w0 W g f0 f1 f2) (ho : d.R e W base ok v xs) (ht : ∀ q, q ∈ e :: d.E → q ≠ 56) : d.R e W base (fun k => ok k ∧ k ≠ g) v xs := by
  obtain ⟨A0, c0, hb, hg, hr0⟩ := h
  exact Kd.R_types ho hb ht
theorem IsS56.own_ne {w0 W : World} {g : Nat} {f0 : List Int} {f1 : Int} {f2 : Int} {α : Type} {d : Kd α} {e : Nat} {base : Nat} {ok : Nat → Prop} {v : Value} {xs : List α} (h : IsS56 w0 W g f0 f1 f2) (ho : d.R e W base ok v xs) (ht : e ≠ 56) : some g ≠ v.ownBlock := by
  obtain ⟨A0, c0, hb, hg, hr0⟩ := h
  exact Kd.R_ne ho hb ht
theorem IsS56.lt {w0 W : World} {g : Nat} {f0 : List Int} {f1 : Int} {f2 : Int} (h : IsS56 w0 W g f0 f1 f2) : g < W.heap.size := by
  obtain ⟨A0, c0, hb, hg, hr0⟩ := h
  exact blk_lt hb
theorem IsS56.ge {w0 W : World} {g : Nat} {f0 : List Int} {f1 : Int} {f2 : Int} (h : IsS56 w0 W g f0 f1 f2) : w0.heap.size ≤ g := by
  obtain ⟨A0, c0, hb, hg, hr0⟩ := h
  exact hg
theorem cellS56_0 {W : World} {g : Nat} {A0 : Option Addr} {c0 : Nat} {f0 : List Int} {f1 : Int} {f2 : Int} (h : W.heap[g]? = some (.cells #[.slice A0 f0.length c0, .int .i64 f1, .int .u64 f2] 56 (0, 0))) : W.cell? ⟨g, 0, none⟩ = some (.slice A0 f0.length c0) := (blk_cell h 0).trans rfl
theorem cellS56_1 {W : World} {g : Nat} {A0 : Option Addr} {c0 : Nat} {f0 : List Int} {f1 : Int} {f2 : Int} (h : W.heap[g]? = some (.cells #[.slice A0 f0.length c0, .int .i64 f1, .int .u64 f2] 56 (0, 0))) : W.cell? ⟨g, 1, none⟩ = some (.int .i64 f1) := (blk_cell h 1).trans rfl
theorem IsS56.set_1 {w0 W : World} {g : Nat} {f0 : List Int} {f1 : Int} {f2 : Int} (h : IsS56 w0 W g f0 f1 f2) (x : Int) : IsS56 w0 (W.setCell ⟨g, 1, none⟩ (.int .i64 x)) g f0 x f2 := by
  obtain ⟨A0, c0, hb, hg, hr0⟩ := h
  exact ⟨A0, c0, by simpa using blk_set hb 1 (.int .i64 x), hg, hr0⟩
theorem cellS56_2 {W : World} {g : Nat} {A0 : Option Addr} {c0 : Nat} {f0 : List Int} {f1 : Int} {f2 : Int} (h : W.heap[g]? = some (.cells #[.slice A0 f0.length c0, .int .i64 f1, .int .u64 f2] 56 (0, 0))) : W.cell? ⟨g, 2, none⟩ = some (.int .u64 f2) := (blk_cell h 2).trans rfl
theorem IsS56.set_2 {w0 W : World} {g : Nat} {f0 : List Int} {f1 : Int} {f2 : Int} (h : IsS56 w0 W g f0 f1 f2) (x : Int) : IsS56 w0 (W.setCell ⟨g, 2, none⟩ (.int .u64 x)) g f0 f1 x := by
  obtain ⟨A0, c0, hb, hg, hr0⟩ := h
  exact ⟨A0, c0, by simpa using blk_set hb 2 (.int .u64 x), hg, hr0⟩
theorem IsS56.new (w0 W : World) (A0 : Option Addr) (c0 : Nat) (f0 : List Int) (f1 : Int) (f2 : Int) (hB : Below w0.heap.size w0 W) (hr0 : Kd.C (Kd.int .u8) w0 A0 f0.length f0) : IsS56 w0 (W.alloc (.cells #[.slice A0 f0.length c0, .int .i64 f1, .int .u64 f2] 56)) W.heap.size f0 f1 f2 := ⟨A0, c0, by simpa using heap_alloc_new W _, hB.size, hr0⟩
def spec_l00From.f (l0 : List Int) : Option (List Int × Int × Int) := some (l0, 0, 0)
set_option maxHeartbeats 8000000 in
set_option maxRecDepth 100000 in
theorem spec_l00From.calls (A0 : Option Addr) (c0 : Nat) (l0 : List Int) (r1 : List Int) (r2 : Int) (r3 : Int) (w0 w : World) (hB : Below w0.heap.size w0 w) (hr0 : Kd.C (Kd.int .u8) w0 A0 l0.length l0) (hc0 : l0.length ≤ c0) (h : spec_l00From.f l0 = some (r1, r2, r3)) :
    Calls Try.prog 19 #[.slice A0 l0.length c0] w fun e w' => ∃ g_ : Nat, e = .returned (.pointer (some ⟨g_, 0, none⟩)) ∧ IsS56 w0 w' g_ r1 r2 r3 ∧ Below w0.heap.size w0 w' ∧ Below w.heap.size w w' := by
  have hu56 := Try.underlying56
  have HR0 := Aside0.mk hr0
  have HC0 := Aside0.mk hc0
  clear hr0 hc0
  have HBW := Aside0.mk (Below.refl w.heap.size w)
  have HW0 := Aside0.mk hB.size
  have HB := Aside0.mk hB
  clear hB
  have H : (some (l0, 0, 0)) = some (r1, r2, r3) := h
  clear h
  simp only [Option.some.injEq, Prod.mk.injEq] at H
  obtain ⟨rfl, rfl, rfl⟩ := H
  go_enter Try.func19, Try.ntmps19
  go_wp2_with (first | ((with_reducible refine gate_dst (N := 5) rfl ?_); refine box_event ?hg (N := 5) ?hd (cs := #[.slice A0 l0.length c0, .int .i64 0, .int .u64 0]) (t := 56) ?hr ?_; (case hd => rfl); (case hg => rfl); (case hr => first | (go_simp; done) | (go_simp; rfl)); intro gb269 hg w2 hbox hb; have n0_ := Aside0.mk (below_step HBW.out hb); have n1_ := Aside0.mk (below_step (by repeat (first | (with_reducible first | exact HB.out | apply below_alloc | apply pw_below_drewN | apply below_drew1) | exact HB.out)) hb); have n2_ := Aside0.mk (hbox); have n3_ := Aside0.mk ((by rw [hg]; exact (below_size (by repeat (first | (with_reducible first | exact HBW.out | apply below_alloc | apply pw_below_drewN | apply below_drew1) | exact HBW.out))) : w.heap.size ≤ gb269)); have n4_ := Aside0.mk ((Nat.le_trans HW0.out (by rw [hg]; exact (below_size (by repeat (first | (with_reducible first | exact HBW.out | apply below_alloc | apply pw_below_drewN | apply below_drew1) | exact HBW.out))) : w.heap.size ≤ gb269) : w0.heap.size ≤ gb269)); clear HBW; clear HB; have HBW := n0_; have HB := n1_; have BK269 := n2_; have GW269 := n3_; have GE269 := n4_; clear n0_ n1_ n2_ n3_ n4_; clear hb hbox hg))
  go_ret
  exact ⟨_, rfl, (show IsS56 w0 _ gb269 l0 0 0 from ⟨_, _, by (with_reducible repeat (first | refine blk_drewN ?_ _ | refine blk_drew ?_ | refine blk_alloc ?_ _)); exact BK269.out, GE269.out, HR0.out⟩), by repeat (first | (with_reducible first | exact HB.out | apply below_alloc | apply pw_below_drewN | apply below_drew1 | refine below_set ?_ GE269.out) | exact HB.out), by repeat (first | (with_reducible first | exact HBW.out | apply below_alloc | apply pw_below_drewN | apply below_drew1 | refine below_set ?_ GW269.out) | exact HBW.out)⟩
def spec_l00Src_next.f (s0_0 : List Int) (s0_1 : Int) (s0_2 : Int) : Option (Int × Int × Int) := if s0_1 < (s0_0.length : Int) then (if 0 ≤ s0_1 then (if (wrap64 (s0_1 + 1)) ≤ (s0_0.length : Int) then (some (wrap64 (rd s0_0 s0_1), wrap64 (s0_1 + 1), IntKind.u64.wrap ((IntKind.u64.wrap ((IntKind.u64.wrap (s0_2 * 6364136223846793005)) + (IntKind.u64.wrap (wrap64 (rd s0_0 s0_1))))) + 1442695040888963407))) else (some (wrap64 (Go.bits .and .u64 ((IntKind.u64.wrap ((IntKind.u64.wrap ((IntKind.u64.wrap (s0_2 * 6364136223846793005)) + (IntKind.u64.wrap (wrap64 (rd s0_0 s0_1))))) + 1442695040888963407)) / 1099511627776) 255), wrap64 (s0_1 + 1), IntKind.u64.wrap ((IntKind.u64.wrap ((IntKind.u64.wrap (s0_2 * 6364136223846793005)) + (IntKind.u64.wrap (wrap64 (rd s0_0 s0_1))))) + 1442695040888963407)))) else (none)) else (if (wrap64 (s0_1 + 1)) ≤ (s0_0.length : Int) then (some (0, wrap64 (s0_1 + 1), IntKind.u64.wrap ((IntKind.u64.wrap ((IntKind.u64.wrap (s0_2 * 6364136223846793005)) + 0)) + 1442695040888963407))) else (some (wrap64 (Go.bits .and .u64 ((IntKind.u64.wrap ((IntKind.u64.wrap ((IntKind.u64.wrap (s0_2 * 6364136223846793005)) + 0)) + 1442695040888963407)) / 1099511627776) 255), wrap64 (s0_1 + 1), IntKind.u64.wrap ((IntKind.u64.wrap ((IntKind.u64.wrap (s0_2 * 6364136223846793005)) + 0)) + 1442695040888963407))))
set_option maxHeartbeats 8000000 in
set_option maxRecDepth 100000 in
theorem spec_l00Src_next.calls (g : Nat) (s0_0 : List Int) (s0_1 s0_2 r1 r2 r3 : Int) (w0 w : World) (hI : IsS56 w0 w g s0_0 s0_1 s0_2) (hB : Below w0.heap.size w0 w) (h : spec_l00Src_next.f s0_0 s0_1 s0_2 = some (r1, r2, r3)) :
    Calls Try.prog 46 #[.pointer (some ⟨g, 0, none⟩)] w fun e w' => e = .returned (.int .i64 r1) ∧ IsS56 w0 w' g s0_0 r2 r3 ∧ Below w0.heap.size w0 w' ∧ KeepBut w w' g none := by
  have HI0 := Aside0.mk hI
  have HK := Aside0.mk (KeepBut.refl w g none)
  have HL := Aside0.mk hB.size
  clear hI
  have HW0 := Aside0.mk hB.size
  have HB := Aside0.mk hB
  clear hB
  have H : (if s0_1 < (s0_0.length : Int) then (if 0 ≤ s0_1 then (if (wrap64 (s0_1 + 1)) ≤ (s0_0.length : Int) then (some (wrap64 (rd s0_0 s0_1), wrap64 (s0_1 + 1), IntKind.u64.wrap ((IntKind.u64.wrap ((IntKind.u64.wrap (s0_2 * 6364136223846793005)) + (IntKind.u64.wrap (wrap64 (rd s0_0 s0_1))))) + 1442695040888963407))) else (some (wrap64 (Go.bits .and .u64 ((IntKind.u64.wrap ((IntKind.u64.wrap ((IntKind.u64.wrap (s0_2 * 6364136223846793005)) + (IntKind.u64.wrap (wrap64 (rd s0_0 s0_1))))) + 1442695040888963407)) / 1099511627776) 255), wrap64 (s0_1 + 1), IntKind.u64.wrap ((IntKind.u64.wrap ((IntKind.u64.wrap (s0_2 * 6364136223846793005)) + (IntKind.u64.wrap (wrap64 (rd s0_0 s0_1))))) + 1442695040888963407)))) else (none)) else (if (wrap64 (s0_1 + 1)) ≤ (s0_0.length : Int) then (some (0, wrap64 (s0_1 + 1), IntKind.u64.wrap ((IntKind.u64.wrap ((IntKind.u64.wrap (s0_2 * 6364136223846793005)) + 0)) + 1442695040888963407))) else (some (wrap64 (Go.bits .and .u64 ((IntKind.u64.wrap ((IntKind.u64.wrap ((IntKind.u64.wrap (s0_2 * 6364136223846793005)) + 0)) + 1442695040888963407)) / 1099511627776) 255), wrap64 (s0_1 + 1), IntKind.u64.wrap ((IntKind.u64.wrap ((IntKind.u64.wrap (s0_2 * 6364136223846793005)) + 0)) + 1442695040888963407))))) = some (r1, r2, r3) := h
  clear h
  by_cases c2 : s0_1 < (s0_0.length : Int)
  · rw [if_pos c2] at H
    have c2b0 : decide (s0_1 < (s0_0.length : Int)) = true := decide_eq_true c2
    clear c2
    by_cases c3 : 0 ≤ s0_1
    · rw [if_pos c3] at H
      have c3b0 : decide (0 ≤ s0_1) = true := decide_eq_true c3
      clear c3
      by_cases c4 : (wrap64 (s0_1 + 1)) ≤ (s0_0.length : Int)
      · rw [if_pos c4] at H
        have c4b0 : decide ((wrap64 (s0_1 + 1)) ≤ (s0_0.length : Int)) = true := decide_eq_true c4
        clear c4
        simp only [Option.some.injEq, Prod.mk.injEq] at H
        obtain ⟨rfl, rfl, rfl⟩ := H
        obtain ⟨ASz5_0, cSz5_0, HGz5, hgz5, HSz5_0⟩ := HI0.out
        have hcz5_0 := cellS56_0 HGz5
        have hcz5_1 := cellS56_1 HGz5
        have hcz5_2 := cellS56_2 HGz5
        have hfz5_1 := blk_frozen HGz5 1
        have hfz5_2 := blk_frozen HGz5 2
        clear HGz5 hgz5
        have p270 : 0 ≤ (s0_1 : Int) := of_decide_eq_true (by first | (with_reducible assumption) | assumption)
        have q270 : s0_1 < (s0_0.length : Int) := of_decide_eq_true (by first | (with_reducible assumption) | assumption)
        obtain ⟨ad270, e270, hx270_0⟩ := Kd.at_int HSz5_0 s0_1 p270 q270
        cases e270
        replace hx270_0 := pw_cell_below HB.out hx270_0
        replace p270 := eq_true p270
        replace q270 := eq_true q270
        go_enter Try.func46, Try.ntmps46
        go_wp2
        repeat (go_quiet (fail); try go_wp2)
        go_ret
        exact ⟨by first | rfl | (simp [errW_none, errW_some] <;> rfl) | (simp [*, errW_none, errW_some] <;> rfl), by (try simp only [Int.add_zero]); repeat (first | (with_reducible first | exact HI0.out | apply IsS56.alloc | apply IsS56.drewN | apply IsS56.drew | apply IsS56.set_1 | apply IsS56.set_2) | exact HI0.out), by repeat (first | (with_reducible first | exact HB.out | apply below_alloc | apply pw_below_drewN | apply below_drew1 | refine below_set ?_ (IsS56.ge HI0.out)) | exact HB.out), by repeat (first | (with_reducible first | exact HK.out | apply KeepBut.set_ | apply keep_drewN | apply keep_drew | apply keep_alloc) | exact HK.out)⟩
      · rw [if_neg c4] at H
        have c4b0 : decide ((wrap64 (s0_1 + 1)) ≤ (s0_0.length : Int)) = false := decide_eq_false c4
        clear c4
        simp only [Option.some.injEq, Prod.mk.injEq] at H
        obtain ⟨rfl, rfl, rfl⟩ := H
        obtain ⟨ASz6_0, cSz6_0, HGz6, hgz6, HSz6_0⟩ := HI0.out
        have hcz6_0 := cellS56_0 HGz6
        have hcz6_1 := cellS56_1 HGz6
        have hcz6_2 := cellS56_2 HGz6
        have hfz6_1 := blk_frozen HGz6 1
        have hfz6_2 := blk_frozen HGz6 2
        clear HGz6 hgz6
        have p270 : 0 ≤ (s0_1 : Int) := of_decide_eq_true (by first | (with_reducible assumption) | assumption)
        have q270 : s0_1 < (s0_0.length : Int) := of_decide_eq_true (by first | (with_reducible assumption) | assumption)
        obtain ⟨ad270, e270, hx270_0⟩ := Kd.at_int HSz6_0 s0_1 p270 q270
        cases e270
        replace hx270_0 := pw_cell_below HB.out hx270_0
        replace p270 := eq_true p270
        replace q270 := eq_true q270
        go_enter Try.func46, Try.ntmps46
        go_wp2
        repeat (go_quiet (fail); try go_wp2)
        go_ret
        exact ⟨by first | rfl | (simp [errW_none, errW_some] <;> rfl) | (simp [*, errW_none, errW_some] <;> rfl), by (try simp only [Int.add_zero]); repeat (first | (with_reducible first | exact HI0.out | apply IsS56.alloc | apply IsS56.drewN | apply IsS56.drew | apply IsS56.set_1 | apply IsS56.set_2) | exact HI0.out), by repeat (first | (with_reducible first | exact HB.out | apply below_alloc | apply pw_below_drewN | apply below_drew1 | refine below_set ?_ (IsS56.ge HI0.out)) | exact HB.out), by repeat (first | (with_reducible first | exact HK.out | apply KeepBut.set_ | apply keep_drewN | apply keep_drew | apply keep_alloc) | exact HK.out)⟩
    · rw [if_neg c3] at H
      exact absurd H (by simp)
  · rw [if_neg c2] at H
    have c2b0 : decide (s0_1 < (s0_0.length : Int)) = false := decide_eq_false c2
    clear c2
    by_cases c7 : (wrap64 (s0_1 + 1)) ≤ (s0_0.length : Int)
    · rw [if_pos c7] at H
      have c7b0 : decide ((wrap64 (s0_1 + 1)) ≤ (s0_0.length : Int)) = true := decide_eq_true c7
      clear c7
      simp only [Option.some.injEq, Prod.mk.injEq] at H
      obtain ⟨rfl, rfl, rfl⟩ := H
      obtain ⟨ASz8_0, cSz8_0, HGz8, hgz8, HSz8_0⟩ := HI0.out
      have hcz8_0 := cellS56_0 HGz8
      have hcz8_1 := cellS56_1 HGz8
      have hcz8_2 := cellS56_2 HGz8
      have hfz8_1 := blk_frozen HGz8 1
      have hfz8_2 := blk_frozen HGz8 2
      clear HGz8 hgz8
      go_enter Try.func46, Try.ntmps46
      go_wp2
      repeat (go_quiet (fail); try go_wp2)
      go_ret
      exact ⟨by first | rfl | (simp [errW_none, errW_some] <;> rfl) | (simp [*, errW_none, errW_some] <;> rfl), by (try simp only [Int.add_zero]); repeat (first | (with_reducible first | exact HI0.out | apply IsS56.alloc | apply IsS56.drewN | apply IsS56.drew | apply IsS56.set_1 | apply IsS56.set_2) | exact HI0.out), by repeat (first | (with_reducible first | exact HB.out | apply below_alloc | apply pw_below_drewN | apply below_drew1 | refine below_set ?_ (IsS56.ge HI0.out)) | exact HB.out), by repeat (first | (with_reducible first | exact HK.out | apply KeepBut.set_ | apply keep_drewN | apply keep_drew | apply keep_alloc) | exact HK.out)⟩
    · rw [if_neg c7] at H
      have c7b0 : decide ((wrap64 (s0_1 + 1)) ≤ (s0_0.length : Int)) = false := decide_eq_false c7
      clear c7
      simp only [Option.some.injEq, Prod.mk.injEq] at H
      obtain ⟨rfl, rfl, rfl⟩ := H
      obtain ⟨ASz9_0, cSz9_0, HGz9, hgz9, HSz9_0⟩ := HI0.out
      have hcz9_0 := cellS56_0 HGz9
      have hcz9_1 := cellS56_1 HGz9
      have hcz9_2 := cellS56_2 HGz9
      have hfz9_1 := blk_frozen HGz9 1
      have hfz9_2 := blk_frozen HGz9 2
      clear HGz9 hgz9
      go_enter Try.func46, Try.ntmps46
      go_wp2
      repeat (go_quiet (fail); try go_wp2)
      go_ret
      exact ⟨by first | rfl | (simp [errW_none, errW_some] <;> rfl) | (simp [*, errW_none, errW_some] <;> rfl), by (try simp only [Int.add_zero]); repeat (first | (with_reducible first | exact HI0.out | apply IsS56.alloc | apply IsS56.drewN | apply IsS56.drew | apply IsS56.set_1 | apply IsS56.set_2) | exact HI0.out), by repeat (first | (with_reducible first | exact HB.out | apply below_alloc | apply pw_below_drewN | apply below_drew1 | refine below_set ?_ (IsS56.ge HI0.out)) | exact HB.out), by repeat (first | (with_reducible first | exact HK.out | apply KeepBut.set_ | apply keep_drewN | apply keep_drew | apply keep_alloc) | exact HK.out)⟩
end Go.Proofs.Ytcibhhkpnakkgaa.Q
namespace Go.Proofs.Ytcibhhkpnakkgaa.Ext
end Go.Proofs.Ytcibhhkpnakkgaa.Ext
namespace Go.Proofs.Ytcibhhkpnakkgaa.Q
open Go.Proofs.Ytcibhhkpnakkgaa.Ext
open Go.RowKit Go.Proofs.YtcibhhkpnakkgaaW.PrintWords Go.Proofs.YtcibhhkpnakkgaaW.PrintLast Go.Proofs.YtcibhhkpnakkgaaW.PrintMore
attribute [local go_sem] max2_int min2_int max_two min_two max_three min_three max_four min_four
set_option linter.unusedVariables false
set_option linter.unusedSimpArgs false
def spec_l00Src_pick.f (s0_0 : List Int) (s0_1 s0_2 a1 : Int) : Option (Int × Int × Int) := if a1 ≤ 1 then (some (0, s0_1, s0_2)) else ((spec_l00Src_next.f s0_0 s0_1 s0_2).bind fun bt271 => (if a1 > 200 then ((spec_l00Src_next.f s0_0 bt271.2.1 bt271.2.2).bind fun bt274 => (if a1 = 0 then (none) else (some (Int.tmod (wrap64 ((wrap64 (bt271.1 * 256)) + bt274.1)) a1, bt274.2.1, bt274.2.2)))) else (if a1 = 0 then (none) else (some (Int.tmod bt271.1 a1, bt271.2.1, bt271.2.2)))))
set_option maxHeartbeats 8000000 in
set_option maxRecDepth 100000 in
theorem spec_l00Src_pick.calls (g : Nat) (s0_0 : List Int) (s0_1 s0_2 a1 r1 r2 r3 : Int) (w0 w : World) (hI : IsS56 w0 w g s0_0 s0_1 s0_2) (hB : Below w0.heap.size w0 w) (h : spec_l00Src_pick.f s0_0 s0_1 s0_2 a1 = some (r1, r2, r3)) :
    Calls Try.prog 20 #[.pointer (some ⟨g, 0, none⟩), .int .i64 a1] w fun e w' => e = .returned (.int .i64 r1) ∧ IsS56 w0 w' g s0_0 r2 r3 ∧ Below w0.heap.size w0 w' ∧ KeepBut w w' g none := by
  have HI0 := Aside0.mk hI
  have HK := Aside0.mk (KeepBut.refl w g none)
  have HL := Aside0.mk hB.size
  clear hI
  have HW0 := Aside0.mk hB.size
  have HB := Aside0.mk hB
  clear hB
  have H : (if a1 ≤ 1 then (some (0, s0_1, s0_2)) else ((spec_l00Src_next.f s0_0 s0_1 s0_2).bind fun bt271 => (if a1 > 200 then ((spec_l00Src_next.f s0_0 bt271.2.1 bt271.2.2).bind fun bt274 => (if a1 = 0 then (none) else (some (Int.tmod (wrap64 ((wrap64 (bt271.1 * 256)) + bt274.1)) a1, bt274.2.1, bt274.2.2)))) else (if a1 = 0 then (none) else (some (Int.tmod bt271.1 a1, bt271.2.1, bt271.2.2)))))) = some (r1, r2, r3) := h
  clear h
  by_cases c3 : a1 ≤ 1
  · rw [if_pos c3] at H
    have c3b0 : decide (a1 ≤ 1) = true := decide_eq_true c3
    clear c3
    simp only [Option.some.injEq, Prod.mk.injEq] at H
    obtain ⟨rfl, rfl, rfl⟩ := H
    go_enter Try.func20, Try.ntmps20
    go_wp2
    go_ret
    exact ⟨by first | rfl | (simp [errW_none, errW_some] <;> rfl) | (simp [*, errW_none, errW_some] <;> rfl), by repeat (first | (with_reducible first | exact HI0.out | apply IsS56.alloc | apply IsS56.drewN | apply IsS56.drew | apply IsS56.set_1 | apply IsS56.set_2) | exact HI0.out), by repeat (first | (with_reducible first | exact HB.out | apply below_alloc | apply pw_below_drewN | apply below_drew1 | refine below_set ?_ (IsS56.ge HI0.out)) | exact HB.out), by repeat (first | (with_reducible first | exact HK.out | apply KeepBut.set_ | apply keep_drewN | apply keep_drew | apply keep_alloc) | exact HK.out)⟩
  · rw [if_neg c3] at H
    have c3b0 : decide (a1 ≤ 1) = false := decide_eq_false c3
    clear c3
    replace H := Option.bind_eq_some_iff.mp H
    obtain ⟨⟨t271, t272, t273⟩, A40, H⟩ := H
    replace H : (if a1 > 200 then ((spec_l00Src_next.f s0_0 t272 t273).bind fun bt274 => (if a1 = 0 then (none) else (some (Int.tmod (wrap64 ((wrap64 (t271 * 256)) + bt274.1)) a1, bt274.2.1, bt274.2.2)))) else (if a1 = 0 then (none) else (some (Int.tmod t271 a1, t272, t273)))) = some (r1, r2, r3) := H
    have A4 := Aside0.mk A40
    clear A40
    by_cases c5 : a1 > 200
    · rw [if_pos c5] at H
      have c5b0 : decide (200 < a1) = true := decide_eq_true c5
      clear c5
      replace H := Option.bind_eq_some_iff.mp H
      obtain ⟨⟨t274, t275, t276⟩, A60, H⟩ := H
      replace H : (if a1 = 0 then (none) else (some (Int.tmod (wrap64 ((wrap64 (t271 * 256)) + t274)) a1, t275, t276))) = some (r1, r2, r3) := H
      have A6 := Aside0.mk A60
      clear A60
      by_cases c7 : a1 = 0
      · rw [if_pos c7] at H
        exact absurd H (by simp)
      · rw [if_neg c7] at H
        have c7b0 : (a1 == 0) = false := beq_eq_false_iff_ne.mpr c7
        have c7b1 : (a1 != 0) = true := bne_iff_ne.mpr c7
        simp only [Option.some.injEq, Prod.mk.injEq] at H
        obtain ⟨rfl, rfl, rfl⟩ := H
        go_enter Try.func20, Try.ntmps20
        go_wp2_with (first | ((with_reducible refine gate_callee (f := 46) rfl ?_); refine goesL_ (some 9) rfl rfl Try.func46 (by kernel_rfl) rfl #[.pointer (some ⟨g, 0, none⟩)] rfl (by (try simp only [List.map_toArray, List.map_cons, List.map_nil]); first | done | rfl | (simp only [List.length_drop, List.length_take]; rfl)) ?_; (with_reducible refine (spec_l00Src_next.calls g s0_0 s0_1 s0_2 t271 t272 t273 w0 _ ?side1 ?side2 A4.out).mono ?_); (case side1 => repeat (first | (with_reducible first | exact HI0.out | apply IsS56.alloc | apply IsS56.drewN | apply IsS56.drew | apply IsS56.set_1 | apply IsS56.set_2) | exact HI0.out)); (case side2 => repeat (first | (with_reducible first | exact HB.out | apply below_alloc | apply pw_below_drewN | apply below_drew1 | refine below_set ?_ (IsS56.ge HI0.out)) | exact HB.out)); rintro e w8 ⟨rfl, hi, hb, hk⟩; refine ⟨_, rfl, ?_⟩; have n0_ := Aside0.mk (KeepBut.trans (by repeat (first | (with_reducible first | exact HK.out | apply KeepBut.set_ | apply keep_drewN | apply keep_drew | apply keep_alloc) | exact HK.out)) hk (.inl rfl)); have n1_ := Aside0.mk (hb); have n2_ := Aside0.mk (hi); clear HK; clear HB; clear HI0; have HK := n0_; have HB := n1_; have HI0 := n2_; clear n0_ n1_ n2_; (try clear hb); (try clear hb2); (try clear hk); (try clear hi)) | ((with_reducible refine gate_callee (f := 46) rfl ?_); refine goesL_ (some 15) rfl rfl Try.func46 (by kernel_rfl) rfl #[.pointer (some ⟨g, 0, none⟩)] rfl (by (try simp only [List.map_toArray, List.map_cons, List.map_nil]); first | done | rfl | (simp only [List.length_drop, List.length_take]; rfl)) ?_; (with_reducible refine (spec_l00Src_next.calls g s0_0 t272 t273 t274 t275 t276 w0 _ ?side1 ?side2 A6.out).mono ?_); (case side1 => repeat (first | (with_reducible first | exact HI0.out | apply IsS56.alloc | apply IsS56.drewN | apply IsS56.drew | apply IsS56.set_1 | apply IsS56.set_2) | exact HI0.out)); (case side2 => repeat (first | (with_reducible first | exact HB.out | apply below_alloc | apply pw_below_drewN | apply below_drew1 | refine below_set ?_ (IsS56.ge HI0.out)) | exact HB.out)); rintro e w9 ⟨rfl, hi, hb, hk⟩; refine ⟨_, rfl, ?_⟩; have n0_ := Aside0.mk (KeepBut.trans (by repeat (first | (with_reducible first | exact HK.out | apply KeepBut.set_ | apply keep_drewN | apply keep_drew | apply keep_alloc) | exact HK.out)) hk (.inl rfl)); have n1_ := Aside0.mk (hb); have n2_ := Aside0.mk (hi); clear HK; clear HB; clear HI0; have HK := n0_; have HB := n1_; have HI0 := n2_; clear n0_ n1_ n2_; (try clear hb); (try clear hb2); (try clear hk); (try clear hi)))
        go_ret
        exact ⟨by first | rfl | (simp [errW_none, errW_some] <;> rfl) | (simp [*, errW_none, errW_some] <;> rfl), by repeat (first | (with_reducible first | exact HI0.out | apply IsS56.alloc | apply IsS56.drewN | apply IsS56.drew | apply IsS56.set_1 | apply IsS56.set_2) | exact HI0.out), by repeat (first | (with_reducible first | exact HB.out | apply below_alloc | apply pw_below_drewN | apply below_drew1 | refine below_set ?_ (IsS56.ge HI0.out)) | exact HB.out), by repeat (first | (with_reducible first | exact HK.out | apply KeepBut.set_ | apply keep_drewN | apply keep_drew | apply keep_alloc) | exact HK.out)⟩
    · rw [if_neg c5] at H
      have c5b0 : decide (200 < a1) = false := decide_eq_false c5
      clear c5
      by_cases c10 : a1 = 0
      · rw [if_pos c10] at H
        exact absurd H (by simp)
      · rw [if_neg c10] at H
        have c10b0 : (a1 == 0) = false := beq_eq_false_iff_ne.mpr c10
        have c10b1 : (a1 != 0) = true := bne_iff_ne.mpr c10
        simp only [Option.some.injEq, Prod.mk.injEq] at H
        obtain ⟨rfl, rfl, rfl⟩ := H
        go_enter Try.func20, Try.ntmps20
        go_wp2_with (first | ((with_reducible refine gate_callee (f := 46) rfl ?_); refine goesL_ (some 9) rfl rfl Try.func46 (by kernel_rfl) rfl #[.pointer (some ⟨g, 0, none⟩)] rfl (by (try simp only [List.map_toArray, List.map_cons, List.map_nil]); first | done | rfl | (simp only [List.length_drop, List.length_take]; rfl)) ?_; (with_reducible refine (spec_l00Src_next.calls g s0_0 s0_1 s0_2 t271 t272 t273 w0 _ ?side1 ?side2 A4.out).mono ?_); (case side1 => repeat (first | (with_reducible first | exact HI0.out | apply IsS56.alloc | apply IsS56.drewN | apply IsS56.drew | apply IsS56.set_1 | apply IsS56.set_2) | exact HI0.out)); (case side2 => repeat (first | (with_reducible first | exact HB.out | apply below_alloc | apply pw_below_drewN | apply below_drew1 | refine below_set ?_ (IsS56.ge HI0.out)) | exact HB.out)); rintro e w11 ⟨rfl, hi, hb, hk⟩; refine ⟨_, rfl, ?_⟩; have n0_ := Aside0.mk (KeepBut.trans (by repeat (first | (with_reducible first | exact HK.out | apply KeepBut.set_ | apply keep_drewN | apply keep_drew | apply keep_alloc) | exact HK.out)) hk (.inl rfl)); have n1_ := Aside0.mk (hb); have n2_ := Aside0.mk (hi); clear HK; clear HB; clear HI0; have HK := n0_; have HB := n1_; have HI0 := n2_; clear n0_ n1_ n2_; (try clear hb); (try clear hb2); (try clear hk); (try clear hi)))
        go_ret
        exact ⟨by first | rfl | (simp [errW_none, errW_some] <;> rfl) | (simp [*, errW_none, errW_some] <;> rfl), by repeat (first | (with_reducible first | exact HI0.out | apply IsS56.alloc | apply IsS56.drewN | apply IsS56.drew | apply IsS56.set_1 | apply IsS56.set_2) | exact HI0.out), by repeat (first | (with_reducible first | exact HB.out | apply below_alloc | apply pw_below_drewN | apply below_drew1 | refine below_set ?_ (IsS56.ge HI0.out)) | exact HB.out), by repeat (first | (with_reducible first | exact HK.out | apply KeepBut.set_ | apply keep_drewN | apply keep_drew | apply keep_alloc) | exact HK.out)⟩
def spec_A2Times.l0 : Nat → List Int → Int → List Int → Int → Int → Option (List Int)
  | 0, _, _, _, _, _ => none
  | k + 1, x4, x5, x281000, x281001, x281002 => if x5 > 0 then ((spec_l00Src_pick.f x281000 x281001 x281002 40).bind fun bt287 => (if x4.length < 17592186044416 then (spec_A2Times.l0 k (x4 ++ [wrap64 (1 + bt287.1)]) (wrap64 (x5 - 1)) x281000 bt287.2.1 bt287.2.2) else (none))) else (some x4)
def spec_A2Times.f (k : Nat) (l0 : List Int) : Option (List Int) := (spec_l00From.f l0).bind fun bt277 => ((spec_l00Src_pick.f bt277.1 bt277.2.1 bt277.2.2 7).bind fun bt284 => (spec_A2Times.l0 k (([] : List Int)) bt284.1 bt277.1 bt284.2.1 bt284.2.2))
theorem spec_A2Times.mono_l : ∀ k, (∀ y0 y1 y2 y3 y4, LeO (spec_A2Times.l0 k y0 y1 y2 y3 y4) (spec_A2Times.l0 (k + 1) y0 y1 y2 y3 y4))
  | 0 => fun _ _ _ _ _ r h => by simp [spec_A2Times.l0] at h
  | k + 1 => by
    have ih0 := spec_A2Times.mono_l k
    · intro y0 y1 y2 y3 y4
      unfold spec_A2Times.l0
      repeat' first
      | (with_reducible exact ih0 _ _ _ _ _)
      | (with_reducible exact LeO.refl _)
      | (with_reducible exact LeO.none _)
      | (with_reducible refine LeO.ite ?_ ?_)
      | (with_reducible refine LeO.bind ?_ (fun _ => ?_))
      | exact ih0 _ _ _ _ _
      | exact LeO.none _
      | refine LeO.ite ?_ ?_
      | refine LeO.bind ?_ (fun _ => ?_)
theorem spec_A2Times.mono : ∀ a0 k, LeO (spec_A2Times.f k a0) (spec_A2Times.f (k + 1) a0) := by
  intro a0 k
  have ih0 := spec_A2Times.mono_l k
  unfold spec_A2Times.f
  repeat' first
      | (with_reducible exact ih0 _ _ _ _ _)
      | (with_reducible exact LeO.refl _)
      | (with_reducible exact LeO.none _)
      | (with_reducible refine LeO.ite ?_ ?_)
      | (with_reducible refine LeO.bind ?_ (fun _ => ?_))
      | exact ih0 _ _ _ _ _
      | exact LeO.none _
      | refine LeO.ite ?_ ?_
      | refine LeO.bind ?_ (fun _ => ?_)
set_option maxHeartbeats 8000000 in
set_option maxRecDepth 100000 in
theorem spec_A2Times.calls (k : Nat) (A0 : Option Addr) (c0 : Nat) (l0 : List Int) (r : List Int) (w : World) (hr0 : Kd.C (Kd.int .u8) w A0 l0.length l0) (hc0 : l0.length ≤ c0) (h : spec_A2Times.f k l0 = some r) :
    Calls Try.prog 5 #[.slice A0 l0.length c0] w fun e w' => ∃ v0_ : Value, e = .returned (v0_) ∧ Kd.R (Kd.int .i64) 2 w' w.heap.size (fun _ => True) v0_ r ∧ Below w.heap.size w w' := by
  have HR0 := Aside0.mk hr0
  have HC0 := Aside0.mk hc0
  clear hr0 hc0
  have HB := Aside0.mk (Below.refl w.heap.size w)
  have H : ((spec_l00From.f l0).bind fun bt277 => ((spec_l00Src_pick.f bt277.1 bt277.2.1 bt277.2.2 7).bind fun bt284 => (spec_A2Times.l0 k (([] : List Int)) bt284.1 bt277.1 bt284.2.1 bt284.2.2))) = some r := h
  clear h
  replace H := Option.bind_eq_some_iff.mp H
  obtain ⟨⟨t277, t278, t279⟩, A20, H⟩ := H
  replace H : ((spec_l00Src_pick.f t277 t278 t279 7).bind fun bt284 => (spec_A2Times.l0 k (([] : List Int)) bt284.1 t277 bt284.2.1 bt284.2.2)) = some r := H
  have A2 := Aside0.mk A20
  clear A20
  obtain ⟨y281, hy281⟩ : ∃ y_ : List Int, y_ = (([] : List Int)) := ⟨_, rfl⟩
  replace H : ((spec_l00Src_pick.f t277 t278 t279 7).bind fun bt284 => (spec_A2Times.l0 k y281 bt284.1 t277 bt284.2.1 bt284.2.2)) = some r := by first | (rw [hy281]; with_reducible exact H) | (have H2_ := (Option.bind_some _ _).symm.trans H; rw [hy281]; with_reducible exact H2_) | (have H2_ := (Option.bind_some _ _).symm.trans H; with_reducible exact H2_) | with_reducible exact H | (rw [hy281]; exact H) | exact H
  have Ny281 := Aside0.mk hy281
  clear hy281
  replace H := Option.bind_eq_some_iff.mp H
  obtain ⟨⟨t284, t285, t286⟩, A30, H⟩ := H
  replace H : (spec_A2Times.l0 k y281 t284 t277 t285 t286) = some r := H
  have A3 := Aside0.mk A30
  clear A30
  have H' := Aside0.mk H
  clear H
  go_enter Try.func5, Try.ntmps5
  go_wp2_with (first | ((with_reducible refine gate_callee (f := 19) rfl ?_); refine goesL_ (some 7) rfl rfl Try.func19 (by kernel_rfl) rfl #[.slice A0 l0.length c0] rfl (by (try simp only [List.map_toArray, List.map_cons, List.map_nil]); first | done | rfl | (simp only [List.length_drop, List.length_take]; rfl)) ?_; (with_reducible refine (spec_l00From.calls _ _ l0 t277 t278 t279 w _ ?side1 ?side2 ?side3 A2.out).mono ?_); (case side1 => repeat (first | (with_reducible first | exact HB.out | apply below_alloc | apply pw_below_drewN | apply below_drew1) | exact HB.out)); (case side2 => exact HR0.out); (case side3 => exact HC0.out); rintro e w4 ⟨g280, rfl, hi, hb, hb2⟩; refine ⟨_, rfl, ?_⟩; have n0_ := Aside0.mk (hb); have n1_ := Aside0.mk (hi); clear HB; have HB := n0_; have HI280 := n1_; clear n0_ n1_; (try clear hb); (try clear hb2); (try clear hk); (try clear hi)) | ((with_reducible refine gate_dst (N := 8) rfl ?_); refine Kd.R_lit (Kd.int .i64) _ 2 ?hg (N := 8) ?hd (xs := ([] : List Int)) (inner := []) (ok := fun _ => True) (okp := fun _ => True) ?hr ?hp (fun _ hk => hk) trivial (Below.refl _ _) (Nat.le_refl _) (by simp) ?_; (case hd => rfl); (case hg => rfl); (case hr => first | (go_simp; done) | (go_simp; rfl)); (case hp => exact (Reps.none _ _)); intro v282 w5 ho6 hb hg_ hnew_; clear hg_ hnew_; (first | rw [← Ny281.out] at ho6 | (simp only [Int.reduceToNat] at ho6; rw [← Ny281.out] at ho6)); have n0_ := Aside0.mk (Kd.R_lower ho6 (below_size (by repeat (first | (with_reducible first | exact HB.out | apply below_alloc | apply pw_below_drewN | apply below_drew1 | refine below_set ?_ (IsS56.ge HI280.out)) | exact HB.out)))); have n1_ := Aside0.mk (IsS56.below (by repeat (first | (with_reducible first | exact HI280.out | apply IsS56.alloc | apply IsS56.drewN | apply IsS56.drew | apply IsS56.set_1 | apply IsS56.set_2) | exact HI280.out)) hb); have n2_ := Aside0.mk (below_step (by repeat (first | (with_reducible first | exact HB.out | apply below_alloc | apply pw_below_drewN | apply below_drew1 | refine below_set ?_ (IsS56.ge HI280.out)) | exact HB.out)) hb); clear HI280; clear HB; have HO283 := n0_; have HI280 := n1_; have HB := n2_; clear n0_ n1_ n2_; clear hb ho6) | ((with_reducible refine gate_callee (f := 20) rfl ?_); refine goesL_ (some 10) rfl rfl Try.func20 (by kernel_rfl) rfl #[.pointer (some ⟨g280, 0, none⟩), .int .i64 7] rfl (by (try simp only [List.map_toArray, List.map_cons, List.map_nil]); first | done | rfl | (simp only [List.length_drop, List.length_take]; rfl)) ?_; (with_reducible refine (spec_l00Src_pick.calls g280 t277 t278 t279 7 t284 t285 t286 w _ ?side1 ?side2 A3.out).mono ?_); (case side1 => repeat (first | (with_reducible first | exact HI280.out | apply IsS56.alloc | apply IsS56.drewN | apply IsS56.drew | apply IsS56.set_1 | apply IsS56.set_2) | exact HI280.out)); (case side2 => repeat (first | (with_reducible first | exact HB.out | apply below_alloc | apply pw_below_drewN | apply below_drew1 | refine below_set ?_ (IsS56.ge HI280.out)) | exact HB.out)); rintro e w7 ⟨rfl, hi, hb, hk⟩; refine ⟨_, rfl, ?_⟩; have n0_ := Aside0.mk (Kd.R_mono (Kd.R_keep (IsS56.apart (show IsS56 w _ g280 t277 t278 t279 from by repeat (first | (with_reducible first | exact HI280.out | apply IsS56.alloc | apply IsS56.drewN | apply IsS56.drew | apply IsS56.set_1 | apply IsS56.set_2) | exact HI280.out)) (by (with_reducible repeat (first | apply Kd.R_alloc | apply Kd.R_drewN | apply Kd.R_drew)); exact HO283.out) (by decide)) hk (fun _ h => h.2)) (fun _ h => h.1)); have n1_ := Aside0.mk (hb); have n2_ := Aside0.mk (hi); clear HO283; clear HB; clear HI280; have HO283 := n0_; have HB := n1_; have HI280 := n2_; clear n0_ n1_ n2_; (try clear hb); (try clear hb2); (try clear hk); (try clear hi)))
  go_loopg [4, 5] k (fun kq v4 v5 w' => ∃ (x4_1 : List Int) (x5_1 x281001_1 x281002_1 : Int), v5 = .int .i64 x5_1 ∧ Aside0 (spec_A2Times.l0 kq x4_1 x5_1 t277 x281001_1 x281002_1 = some r) ∧ Aside0 (kq ≤ k) ∧ Aside0 (Kd.R (Kd.int .i64) 2 w' w.heap.size (fun _ => True) v4 x4_1) ∧ Aside0 (IsS56 w w' g280 t277 x281001_1 x281002_1) ∧ Aside0 (Below w.heap.size w w'))
  case atStart => exact ⟨(y281), (t284), (t285), (t286), (by first | rfl | (simp; done) | (simp [*]; done)), H', ⟨Nat.le_refl _⟩, ⟨by (with_reducible repeat (first | apply Kd.R_alloc | apply Kd.R_drewN | apply Kd.R_drew)); exact HO283.out⟩, ⟨by repeat (first | (with_reducible first | exact HI280.out | apply IsS56.alloc | apply IsS56.drewN | apply IsS56.drew | apply IsS56.set_1 | apply IsS56.set_2) | exact HI280.out)⟩, ⟨by repeat (first | (with_reducible first | exact HB.out | apply below_alloc | apply pw_below_drewN | apply below_drew1 | refine below_set ?_ (IsS56.ge HI280.out)) | exact HB.out)⟩⟩
  case round =>
    clear H'
    try clear c1
    try clear c2
    try clear p2
    try clear c5
    obtain ⟨x4_1, x5_1, x281001_1, x281002_1, rfl, HA, HK1, HO_4, HI280, HB⟩ := hrel
    cases gk with
    | zero => exact absurd HA.out (by simp [spec_A2Times.l0])
    | succ k1 =>
      have H := HA.out
      clear HA
      simp only [spec_A2Times.l0] at H
      by_cases c8 : x5_1 > 0
      · rw [if_pos c8] at H
        have c8b0 : decide (0 < x5_1) = true := decide_eq_true c8
        clear c8
        replace H := Option.bind_eq_some_iff.mp H
        obtain ⟨⟨t287, t288, t289⟩, A90, H⟩ := H
        replace H : (if x4_1.length < 17592186044416 then (spec_A2Times.l0 k1 (x4_1 ++ [wrap64 (1 + t287)]) (wrap64 (x5_1 - 1)) t277 t288 t289) else (none)) = some r := H
        have A9 := Aside0.mk A90
        clear A90
        by_cases c10 : x4_1.length < 17592186044416
        · rw [if_pos c10] at H
          have LMc10 := Aside0.mk c10
          clear c10
          obtain ⟨y290, hy290⟩ : ∃ y_ : List Int, y_ = (x4_1 ++ [wrap64 (1 + t287)]) := ⟨_, rfl⟩
          replace H : (spec_A2Times.l0 k1 y290 (wrap64 (x5_1 - 1)) t277 t288 t289) = some r := by first | (rw [hy290]; with_reducible exact H) | (have H2_ := (Option.bind_some _ _).symm.trans H; rw [hy290]; with_reducible exact H2_) | (have H2_ := (Option.bind_some _ _).symm.trans H; with_reducible exact H2_) | with_reducible exact H | (rw [hy290]; exact H) | exact H
          have Ny290 := Aside0.mk hy290
          clear hy290
          have H' := Aside0.mk H
          clear H
          go_wp2_with (first | ((with_reducible refine gate_callee (f := 20) rfl ?_); refine goesL_ (some 17) rfl rfl Try.func20 (by kernel_rfl) rfl #[.pointer (some ⟨g280, 0, none⟩), .int .i64 40] rfl (by (try simp only [List.map_toArray, List.map_cons, List.map_nil]); first | done | rfl | (simp only [List.length_drop, List.length_take]; rfl)) ?_; (with_reducible refine (spec_l00Src_pick.calls g280 t277 x281001_1 x281002_1 40 t287 t288 t289 w _ ?side1 ?side2 A9.out).mono ?_); (case side1 => repeat (first | (with_reducible first | exact HI280.out | apply IsS56.alloc | apply IsS56.drewN | apply IsS56.drew | apply IsS56.set_1 | apply IsS56.set_2) | exact HI280.out)); (case side2 => repeat (first | (with_reducible first | exact HB.out | apply below_alloc | apply pw_below_drewN | apply below_drew1 | refine below_set ?_ (IsS56.ge HI280.out)) | exact HB.out)); rintro e w11 ⟨rfl, hi, hb, hk⟩; refine ⟨_, rfl, ?_⟩; have n0_ := Aside0.mk (Kd.R_mono (Kd.R_keep (IsS56.apart (show IsS56 w _ g280 t277 x281001_1 x281002_1 from by repeat (first | (with_reducible first | exact HI280.out | apply IsS56.alloc | apply IsS56.drewN | apply IsS56.drew | apply IsS56.set_1 | apply IsS56.set_2) | exact HI280.out)) (by (with_reducible repeat (first | apply Kd.R_alloc | apply Kd.R_drewN | apply Kd.R_drew)); exact HO_4.out) (by decide)) hk (fun _ h => h.2)) (fun _ h => h.1)); have n1_ := Aside0.mk (hb); have n2_ := Aside0.mk (hi); clear HO_4; clear HB; clear HI280; have HO_4 := n0_; have HB := n1_; have HI280 := n2_; clear n0_ n1_ n2_; (try clear hb); (try clear hb2); (try clear hk); (try clear hi)) | ((with_reducible refine gate_builtin (b := .append) (xs := #[.tmp 15, .tmp 19]) rfl ?_); at_builtin; refine Kd.R_append (Kd.int .i64) (w0 := w) w.heap.size rfl (.tmp 15) (.tmp 19) 24 2 (.int .i64 0) 8 rfl Try.underlying24 info2 rfl (by decide) (by omega) u4 x4_1 (wrap64 (1 + t287)) [.int .i64 (wrap64 (1 + t287))] (fun _ => True) (fun _ => False) rfl rfl ?aP (fun _ hk => hk.elim) ?aF ?aO ?aB ?aS ?aL ?_; (case aP => exact rfl); (case aB => exact (by repeat (first | (with_reducible first | exact HB.out | apply below_alloc | apply pw_below_drewN | apply below_drew1 | refine below_set ?_ (IsS56.ge HI280.out)) | exact HB.out))); (case aF => exact (fun _ _ => trivial)); (case aO => exact (by (with_reducible repeat (first | apply Kd.R_alloc | apply Kd.R_drewN | apply Kd.R_drew)); exact HO_4.out)); (case aS => exact (below_size (by repeat (first | (with_reducible first | exact HB.out | apply below_alloc | apply pw_below_drewN | apply below_drew1 | refine below_set ?_ (IsS56.ge HI280.out)) | exact HB.out)))); (case aL => have := LMc10.out; omega); intro v291 w12 ho hb hg hat; rw [← Ny290.out] at ho; have n0_ := Aside0.mk (IsS56.grown (by repeat (first | (with_reducible first | exact HI280.out | apply IsS56.alloc | apply IsS56.drewN | apply IsS56.drew | apply IsS56.set_1 | apply IsS56.set_2) | exact HI280.out)) hg (IsS56.own_ne HI280.out HO_4.out (by decide))); have n1_ := Aside0.mk (hb); have n2_ := Aside0.mk (ho); clear HI280; clear HB; clear HO_4; have HI280 := n0_; have HB := n1_; have HO292 := n2_; clear n0_ n1_ n2_; clear ho hb hg hat))
          go_roundg k1
          case measure => have := HK1.out; omega
          case rel => exact ⟨(y290), (wrap64 (x5_1 - 1)), (t288), (t289), (by first | rfl | (simp; done) | (simp [*]; done)), H', ⟨by have := HK1.out; omega⟩, ⟨by (with_reducible repeat (first | apply Kd.R_alloc | apply Kd.R_drewN | apply Kd.R_drew)); exact HO292.out⟩, ⟨by repeat (first | (with_reducible first | exact HI280.out | apply IsS56.alloc | apply IsS56.drewN | apply IsS56.drew | apply IsS56.set_1 | apply IsS56.set_2) | exact HI280.out)⟩, ⟨by repeat (first | (with_reducible first | exact HB.out | apply below_alloc | apply pw_below_drewN | apply below_drew1 | refine below_set ?_ (IsS56.ge HI280.out)) | exact HB.out)⟩⟩
        · rw [if_neg c10] at H
          exact absurd H (by simp)
      · rw [if_neg c8] at H
        have c8b0 : decide (0 < x5_1) = false := decide_eq_false c8
        clear c8
        obtain rfl := Option.some.inj H
        go_wp2
        go_ret
        exact ⟨_, by first | rfl | (simp [errW_none, errW_some] <;> rfl) | (simp [*, errW_none, errW_some] <;> rfl), by (with_reducible repeat (first | apply Kd.R_alloc | apply Kd.R_drewN | apply Kd.R_drew)); exact HO_4.out, by repeat (first | (with_reducible first | exact HB.out | apply below_alloc | apply pw_below_drewN | apply below_drew1 | refine below_set ?_ (IsS56.ge HI280.out)) | exact HB.out)⟩
end Go.Proofs.Ytcibhhkpnakkgaa.Q
namespace Go.Proofs.Ytcibhhkpnakkgaa.Ext
end Go.Proofs.Ytcibhhkpnakkgaa.Ext
namespace Go.Proofs.Ytcibhhkpnakkgaa.Q
open Go.Proofs.Ytcibhhkpnakkgaa.Ext
open Go.RowKit Go.Proofs.YtcibhhkpnakkgaaW.PrintWords Go.Proofs.YtcibhhkpnakkgaaW.PrintLast Go.Proofs.YtcibhhkpnakkgaaW.PrintMore
attribute [local go_sem] max2_int min2_int max_two min_two max_three min_three max_four min_four
set_option linter.unusedVariables false
set_option linter.unusedSimpArgs false
def spec_l00Same.l0 : Nat → List Int → List Int → Int → Option (Bool)
  | 0, _, _, _ => none
  | k + 1, x0, x1, x5 => if x5 < (x0.length : Int) then (if 0 ≤ x5 then (if x5 < (x1.length : Int) then (if (rd x0 x5) = (rd x1 x5) then (spec_l00Same.l0 k x0 x1 (wrap64 (x5 + 1))) else (some false)) else (none)) else (none)) else (some true)
def spec_l00Same.f (k : Nat) (l0 : List Int) (l1 : List Int) : Option (Bool) := if (l0.length : Int) = (l1.length : Int) then (spec_l00Same.l0 k l0 l1 0) else (some false)
theorem spec_l00Same.mono_l : ∀ k, (∀ y0 y1 y2, LeO (spec_l00Same.l0 k y0 y1 y2) (spec_l00Same.l0 (k + 1) y0 y1 y2))
  | 0 => fun _ _ _ r h => by simp [spec_l00Same.l0] at h
  | k + 1 => by
    have ih0 := spec_l00Same.mono_l k
    · intro y0 y1 y2
      unfold spec_l00Same.l0
      repeat' first
      | (with_reducible exact ih0 _ _ _)
      | (with_reducible exact LeO.refl _)
      | (with_reducible exact LeO.none _)
      | (with_reducible refine LeO.ite ?_ ?_)
      | (with_reducible refine LeO.bind ?_ (fun _ => ?_))
      | exact ih0 _ _ _
      | exact LeO.none _
      | refine LeO.ite ?_ ?_
      | refine LeO.bind ?_ (fun _ => ?_)
theorem spec_l00Same.mono : ∀ a0 a1 k, LeO (spec_l00Same.f k a0 a1) (spec_l00Same.f (k + 1) a0 a1) := by
  intro a0 a1 k
  have ih0 := spec_l00Same.mono_l k
  unfold spec_l00Same.f
  repeat' first
      | (with_reducible exact ih0 _ _ _)
      | (with_reducible exact LeO.refl _)
      | (with_reducible exact LeO.none _)
      | (with_reducible refine LeO.ite ?_ ?_)
      | (with_reducible refine LeO.bind ?_ (fun _ => ?_))
      | exact ih0 _ _ _
      | exact LeO.none _
      | refine LeO.ite ?_ ?_
      | refine LeO.bind ?_ (fun _ => ?_)
set_option maxHeartbeats 8000000 in
set_option maxRecDepth 100000 in
theorem spec_l00Same.calls (k : Nat) (A0 : Option Addr) (c0 : Nat) (l0 : List Int) (A1 : Option Addr) (c1 : Nat) (l1 : List Int) (r : Bool) (w : World) (hr0 : Kd.C (Kd.int .i64) w A0 l0.length l0) (hc0 : l0.length ≤ c0) (hr1 : Kd.C (Kd.int .i64) w A1 l1.length l1) (hc1 : l1.length ≤ c1) (h : spec_l00Same.f k l0 l1 = some r) :
    Calls Try.prog 34 #[.slice A0 l0.length c0, .slice A1 l1.length c1] w fun e w' => e = .returned (.bool r) ∧ Drawn0 w w' := by
  have HR0 := Aside0.mk hr0
  have HC0 := Aside0.mk hc0
  clear hr0 hc0
  have HR1 := Aside0.mk hr1
  have HC1 := Aside0.mk hc1
  clear hr1 hc1
  have H : (if (l0.length : Int) = (l1.length : Int) then (spec_l00Same.l0 k l0 l1 0) else (some false)) = some r := h
  clear h
  by_cases c3 : (l0.length : Int) = (l1.length : Int)
  · rw [if_pos c3] at H
    have c3b0 : ((l0.length : Int) == (l1.length : Int)) = true := beq_iff_eq.mpr c3
    have c3b1 : ((l0.length : Int) != (l1.length : Int)) = false := bne_eq_false_iff_eq.mpr c3
    have c3b2 : (l0.length == l1.length) = true := by first | simpa using c3 | (simp at c3 ⊢; omega)
    clear c3
    have H' := Aside0.mk H
    clear H
    go_enter Try.func34, Try.ntmps34
    go_wp2
    repeat (go_quiet (fail); try go_wp2)
    go_loopg [5] k (fun kq v5 w' => ∃ (x5_1 : Int), v5 = .int .i64 x5_1 ∧ Aside0 (spec_l00Same.l0 kq l0 l1 x5_1 = some r) ∧ Aside0 (kq ≤ k) ∧ Drawn0 w w')
    case atStart => exact ⟨(0), (by first | rfl | (simp; done) | (simp [*]; done)), H', ⟨Nat.le_refl _⟩, by repeat (first | exact Drawn0.refl _ | apply Drawn0.step)⟩
    case round =>
      clear H'
      try clear c1
      try clear p2
      try clear c3
      try clear c3b0
      try clear c3b1
      try clear c3b2
      obtain ⟨x5_1, rfl, HA, HK1, ⟨m1, rfl⟩⟩ := hrel
      cases gk with
      | zero => exact absurd HA.out (by simp [spec_l00Same.l0])
      | succ k1 =>
        have H := HA.out
        clear HA
        simp only [spec_l00Same.l0] at H
        by_cases c4 : x5_1 < (l0.length : Int)
        · rw [if_pos c4] at H
          have c4b0 : decide (x5_1 < (l0.length : Int)) = true := decide_eq_true c4
          clear c4
          by_cases c5 : 0 ≤ x5_1
          · rw [if_pos c5] at H
            have c5b0 : decide (0 ≤ x5_1) = true := decide_eq_true c5
            clear c5
            by_cases c6 : x5_1 < (l1.length : Int)
            · rw [if_pos c6] at H
              have c6b0 : decide (x5_1 < (l1.length : Int)) = true := decide_eq_true c6
              clear c6
              by_cases c7 : (rd l0 x5_1) = (rd l1 x5_1)
              · rw [if_pos c7] at H
                have c7b0 : ((rd l0 x5_1) == (rd l1 x5_1)) = true := beq_iff_eq.mpr c7
                have c7b1 : ((rd l0 x5_1) != (rd l1 x5_1)) = false := bne_eq_false_iff_eq.mpr c7
                clear c7
                have H' := Aside0.mk H
                clear H
                have p293 : 0 ≤ (x5_1 : Int) := of_decide_eq_true (by first | (with_reducible assumption) | assumption)
                have q293 : x5_1 < (l0.length : Int) := of_decide_eq_true (by first | (with_reducible assumption) | assumption)
                obtain ⟨ad293, e293, hx293_0⟩ := Kd.at_int HR0.out x5_1 p293 q293
                cases e293
                replace p293 := eq_true p293
                replace q293 := eq_true q293
                have p294 : 0 ≤ (x5_1 : Int) := of_decide_eq_true (by first | (with_reducible assumption) | assumption)
                have q294 : x5_1 < (l1.length : Int) := of_decide_eq_true (by first | (with_reducible assumption) | assumption)
                obtain ⟨ad294, e294, hx294_0⟩ := Kd.at_int HR1.out x5_1 p294 q294
                cases e294
                replace p294 := eq_true p294
                replace q294 := eq_true q294
                go_wp2
                repeat (go_quiet (fail); try go_wp2)
                go_roundg k1
                case measure => have := HK1.out; omega
                case rel => exact ⟨(wrap64 (x5_1 + 1)), (by first | rfl | (simp; done) | (simp [*]; done)), H', ⟨by have := HK1.out; omega⟩, by repeat (first | exact Drawn0.refl _ | apply Drawn0.step)⟩
              · rw [if_neg c7] at H
                have c7b0 : ((rd l0 x5_1) == (rd l1 x5_1)) = false := beq_eq_false_iff_ne.mpr c7
                have c7b1 : ((rd l0 x5_1) != (rd l1 x5_1)) = true := bne_iff_ne.mpr c7
                obtain rfl := Option.some.inj H
                have p293 : 0 ≤ (x5_1 : Int) := of_decide_eq_true (by first | (with_reducible assumption) | assumption)
                have q293 : x5_1 < (l0.length : Int) := of_decide_eq_true (by first | (with_reducible assumption) | assumption)
                obtain ⟨ad293, e293, hx293_0⟩ := Kd.at_int HR0.out x5_1 p293 q293
                cases e293
                replace p293 := eq_true p293
                replace q293 := eq_true q293
                have p294 : 0 ≤ (x5_1 : Int) := of_decide_eq_true (by first | (with_reducible assumption) | assumption)
                have q294 : x5_1 < (l1.length : Int) := of_decide_eq_true (by first | (with_reducible assumption) | assumption)
                obtain ⟨ad294, e294, hx294_0⟩ := Kd.at_int HR1.out x5_1 p294 q294
                cases e294
                replace p294 := eq_true p294
                replace q294 := eq_true q294
                go_wp2
                repeat (go_quiet (fail); try go_wp2)
                go_ret
                exact ⟨by first | rfl | (simp; done) | (simp [*]; done), by repeat (first | exact Drawn0.refl _ | apply Drawn0.step)⟩
            · rw [if_neg c6] at H
              exact absurd H (by simp)
          · rw [if_neg c5] at H
            exact absurd H (by simp)
        · rw [if_neg c4] at H
          have c4b0 : decide (x5_1 < (l0.length : Int)) = false := decide_eq_false c4
          clear c4
          obtain rfl := Option.some.inj H
          go_wp2
          repeat (go_quiet (fail); try go_wp2)
          go_ret
          exact ⟨by first | rfl | (simp; done) | (simp [*]; done), by repeat (first | exact Drawn0.refl _ | apply Drawn0.step)⟩
  · rw [if_neg c3] at H
    have c3b0 : ((l0.length : Int) == (l1.length : Int)) = false := beq_eq_false_iff_ne.mpr c3
    have c3b1 : ((l0.length : Int) != (l1.length : Int)) = true := bne_iff_ne.mpr c3
    have c3b2 : (l0.length == l1.length) = false := by first | simpa using c3 | (simp at c3 ⊢; omega)
    obtain rfl := Option.some.inj H
    go_enter Try.func34, Try.ntmps34
    go_wp2
    repeat (go_quiet (fail); try go_wp2)
    go_ret
    exact ⟨by first | rfl | (simp; done) | (simp [*]; done), by repeat (first | exact Drawn0.refl _ | apply Drawn0.step)⟩
def spec_A2Same.f (k : Nat) (l0 : List Int) (l1 : List Int) : Option (Bool) := (spec_l00Same.f k l0 l1).bind fun t295 => (some t295)
theorem spec_A2Same.mono : ∀ a0 a1 k, LeO (spec_A2Same.f k a0 a1) (spec_A2Same.f (k + 1) a0 a1) := by
  intro a0 a1 k
  unfold spec_A2Same.f
  repeat' first
      | (with_reducible exact spec_l00Same.mono _ _ _)
      | (with_reducible exact LeO.refl _)
      | (with_reducible exact LeO.none _)
      | (with_reducible refine LeO.ite ?_ ?_)
      | (with_reducible refine LeO.bind ?_ (fun _ => ?_))
      | exact spec_l00Same.mono _ _ _
      | exact LeO.none _
      | refine LeO.ite ?_ ?_
      | refine LeO.bind ?_ (fun _ => ?_)
set_option maxHeartbeats 8000000 in
set_option maxRecDepth 100000 in
theorem spec_A2Same.calls (k : Nat) (A0 : Option Addr) (c0 : Nat) (l0 : List Int) (A1 : Option Addr) (c1 : Nat) (l1 : List Int) (r : Bool) (w : World) (hr0 : Kd.C (Kd.int .i64) w A0 l0.length l0) (hc0 : l0.length ≤ c0) (hr1 : Kd.C (Kd.int .i64) w A1 l1.length l1) (hc1 : l1.length ≤ c1) (h : spec_A2Same.f k l0 l1 = some r) :
    Calls Try.prog 13 #[.slice A0 l0.length c0, .slice A1 l1.length c1] w fun e w' => e = .returned (.bool r) ∧ Drawn0 w w' := by
  have HR0 := Aside0.mk hr0
  have HC0 := Aside0.mk hc0
  clear hr0 hc0
  have HR1 := Aside0.mk hr1
  have HC1 := Aside0.mk hc1
  clear hr1 hc1
  have H : ((spec_l00Same.f k l0 l1).bind fun t295 => (some t295)) = some r := h
  clear h
  replace H := Option.bind_eq_some_iff.mp H
  obtain ⟨t295, A30, H⟩ := H
  replace H : (some t295) = some r := H
  have A3 := Aside0.mk A30
  clear A30
  obtain rfl := Option.some.inj H
  go_enter Try.func13, Try.ntmps13
  go_wp2_with (first | ((with_reducible refine gate_callee (f := 34) rfl ?_); refine goesL_ (some 7) rfl rfl Try.func34 (by kernel_rfl) rfl #[.slice A0 l0.length c0, .slice A1 l1.length c1] rfl (by (try simp only [List.map_toArray, List.map_cons, List.map_nil]); first | done | rfl | (simp only [List.length_drop, List.length_take]; rfl)) ?_; (with_reducible refine (spec_l00Same.calls k _ _ l0 _ _ l1 t295 _ ?side1 ?side2 ?side3 ?side4 A3.out).mono ?_); (case side1 => repeat (first | exact HR0.out | (with_reducible refine Kd.C_alloc ?_ _) | (with_reducible refine Kd.C_drewN ?_ _) | (with_reducible refine Kd.C_drew ?_))); (case side2 => exact HC0.out); (case side3 => repeat (first | exact HR1.out | (with_reducible refine Kd.C_alloc ?_ _) | (with_reducible refine Kd.C_drewN ?_ _) | (with_reducible refine Kd.C_drew ?_))); (case side4 => exact HC1.out); rintro e w' ⟨rfl, ⟨nd, rfl⟩⟩; refine ⟨_, rfl, ?_⟩))
  go_ret
  exact ⟨by first | rfl | (simp; done) | (simp [*]; done), by repeat (first | exact Drawn0.refl _ | apply Drawn0.step)⟩
def spec_A2Same.Pure : Prop := ∀ (l0 : List Int) (l1 : List Int), l0.length ≤ maxLen → l0.length * 8 ≤ 140737488351232 → (∀ x ∈ l0, (Lit.int .i64 x).wf = true) → l1.length ≤ maxLen → l1.length * 8 ≤ 140737488351232 → (∀ x ∈ l1, (Lit.int .i64 x).wf = true) → ∃ k, spec_A2Same.f k l0 l1 = some true
end Go.Proofs.Ytcibhhkpnakkgaa.Q
namespace Go.Proofs.Ytcibhhkpnakkgaa.Ext
end Go.Proofs.Ytcibhhkpnakkgaa.Ext
namespace Go.Proofs.Ytcibhhkpnakkgaa.Q
open Go.Proofs.Ytcibhhkpnakkgaa.Ext
open Go.RowKit Go.Proofs.YtcibhhkpnakkgaaW.PrintWords Go.Proofs.YtcibhhkpnakkgaaW.PrintLast Go.Proofs.YtcibhhkpnakkgaaW.PrintMore
attribute [local go_sem] max2_int min2_int max_two min_two max_three min_three max_four min_four
set_option linter.unusedVariables false
set_option linter.unusedSimpArgs false
def spec_A2Has.f (k : Nat) (l0 : List Int) (a1 : Int) : Option (Bool) := (spec_l00Has.f k l0 a1).bind fun t296 => (some t296)
theorem spec_A2Has.mono : ∀ a0 a1 k, LeO (spec_A2Has.f k a0 a1) (spec_A2Has.f (k + 1) a0 a1) := by
  intro a0 a1 k
  unfold spec_A2Has.f
  repeat' first
      | (with_reducible exact spec_l00Has.mono _ _ _)
      | (with_reducible exact LeO.refl _)
      | (with_reducible exact LeO.none _)
      | (with_reducible refine LeO.ite ?_ ?_)
      | (with_reducible refine LeO.bind ?_ (fun _ => ?_))
      | exact spec_l00Has.mono _ _ _
      | exact LeO.none _
      | refine LeO.ite ?_ ?_
      | refine LeO.bind ?_ (fun _ => ?_)
set_option maxHeartbeats 8000000 in
set_option maxRecDepth 100000 in
theorem spec_A2Has.calls (k : Nat) (A0 : Option Addr) (c0 : Nat) (l0 : List Int) (a1 : Int) (r : Bool) (w : World) (hr0 : Kd.C (Kd.int .i64) w A0 l0.length l0) (hc0 : l0.length ≤ c0) (h : spec_A2Has.f k l0 a1 = some r) :
    Calls Try.prog 16 #[.slice A0 l0.length c0, .int .i64 a1] w fun e w' => e = .returned (.bool r) ∧ Drawn0 w w' := by
  have HR0 := Aside0.mk hr0
  have HC0 := Aside0.mk hc0
  clear hr0 hc0
  have H : ((spec_l00Has.f k l0 a1).bind fun t296 => (some t296)) = some r := h
  clear h
  replace H := Option.bind_eq_some_iff.mp H
  obtain ⟨t296, A30, H⟩ := H
  replace H : (some t296) = some r := H
  have A3 := Aside0.mk A30
  clear A30
  obtain rfl := Option.some.inj H
  go_enter Try.func16, Try.ntmps16
  go_wp2_with (first | ((with_reducible refine gate_callee (f := 42) rfl ?_); refine goesL_ (some 7) rfl rfl Try.func42 (by kernel_rfl) rfl #[.slice A0 l0.length c0, .int .i64 a1] rfl (by (try simp only [List.map_toArray, List.map_cons, List.map_nil]); first | done | rfl | (simp only [List.length_drop, List.length_take]; rfl)) ?_; (with_reducible refine (spec_l00Has.calls k _ _ l0 a1 t296 _ ?side1 ?side2 A3.out).mono ?_); (case side1 => repeat (first | exact HR0.out | (with_reducible refine Kd.C_alloc ?_ _) | (with_reducible refine Kd.C_drewN ?_ _) | (with_reducible refine Kd.C_drew ?_))); (case side2 => exact HC0.out); rintro e w' ⟨rfl, ⟨nd, rfl⟩⟩; refine ⟨_, rfl, ?_⟩))
  go_ret
  exact ⟨by first | rfl | (simp; done) | (simp [*]; done), by repeat (first | exact Drawn0.refl _ | apply Drawn0.step)⟩
def spec_A2Has.Pure : Prop := ∀ (l0 : List Int) (a1 : Int), l0.length ≤ maxLen → l0.length * 8 ≤ 140737488351232 → (∀ x ∈ l0, (Lit.int .i64 x).wf = true) → (Lit.int .i64 a1).wf = true → ∃ k, spec_A2Has.f k l0 a1 = some true
def laws_a2At.f (l0 : List Int) (a1 : Int) (a2 : Int) : Option (Int) := if a1 ≥ (l0.length : Int) then (some 0) else (if a2 < 1 then (some 0) else (if 0 ≤ a1 then (if a1 < (l0.length : Int) then (if a2 = 0 then (none) else (some (Int.tmod (wrap64 (rd l0 a1)) a2))) else (none)) else (none)))
set_option maxHeartbeats 8000000 in
set_option maxRecDepth 100000 in
theorem laws_a2At.calls (A0 : Option Addr) (c0 : Nat) (l0 : List Int) (a1 a2 r : Int) (w : World) (hr0 : Kd.C (Kd.int .u8) w A0 l0.length l0) (hc0 : l0.length ≤ c0) (h : laws_a2At.f l0 a1 a2 = some r) :
    Calls Try.prog 6 #[.slice A0 l0.length c0, .int .i64 a1, .int .i64 a2] w fun e w' => e = .returned (.int .i64 r) ∧ Drawn0 w w' := by
  have HR0 := Aside0.mk hr0
  have HC0 := Aside0.mk hc0
  clear hr0 hc0
  have H : (if a1 ≥ (l0.length : Int) then (some 0) else (if a2 < 1 then (some 0) else (if 0 ≤ a1 then (if a1 < (l0.length : Int) then (if a2 = 0 then (none) else (some (Int.tmod (wrap64 (rd l0 a1)) a2))) else (none)) else (none)))) = some r := h
  clear h
  by_cases c4 : a1 ≥ (l0.length : Int)
  · rw [if_pos c4] at H
    have c4b0 : decide ((l0.length : Int) ≤ a1) = true := decide_eq_true c4
    clear c4
    obtain rfl := Option.some.inj H
    go_enter Try.func6, Try.ntmps6
    go_wp2
    go_ret
    exact ⟨by first | rfl | (simp; done) | (simp [*]; done), by repeat (first | exact Drawn0.refl _ | apply Drawn0.step)⟩
  · rw [if_neg c4] at H
    have c4b0 : decide ((l0.length : Int) ≤ a1) = false := decide_eq_false c4
    clear c4
    by_cases c5 : a2 < 1
    · rw [if_pos c5] at H
      have c5b0 : decide (a2 < 1) = true := decide_eq_true c5
      clear c5
      obtain rfl := Option.some.inj H
      go_enter Try.func6, Try.ntmps6
      go_wp2
      go_ret
      exact ⟨by first | rfl | (simp; done) | (simp [*]; done), by repeat (first | exact Drawn0.refl _ | apply Drawn0.step)⟩
    · rw [if_neg c5] at H
      have c5b0 : decide (a2 < 1) = false := decide_eq_false c5
      clear c5
      by_cases c6 : 0 ≤ a1
      · rw [if_pos c6] at H
        have c6b0 : decide (0 ≤ a1) = true := decide_eq_true c6
        clear c6
        by_cases c7 : a1 < (l0.length : Int)
        · rw [if_pos c7] at H
          have c7b0 : decide (a1 < (l0.length : Int)) = true := decide_eq_true c7
          clear c7
          by_cases c8 : a2 = 0
          · rw [if_pos c8] at H
            exact absurd H (by simp)
          · rw [if_neg c8] at H
            have c8b0 : (a2 == 0) = false := beq_eq_false_iff_ne.mpr c8
            have c8b1 : (a2 != 0) = true := bne_iff_ne.mpr c8
            obtain rfl := Option.some.inj H
            have p297 : 0 ≤ (a1 : Int) := of_decide_eq_true (by first | (with_reducible assumption) | assumption)
            have q297 : a1 < (l0.length : Int) := of_decide_eq_true (by first | (with_reducible assumption) | assumption)
            obtain ⟨ad297, e297, hx297_0⟩ := Kd.at_int HR0.out a1 p297 q297
            cases e297
            replace p297 := eq_true p297
            replace q297 := eq_true q297
            go_enter Try.func6, Try.ntmps6
            go_wp2
            go_ret
            exact ⟨by first | rfl | (simp; done) | (simp [*]; done), by repeat (first | exact Drawn0.refl _ | apply Drawn0.step)⟩
        · rw [if_neg c7] at H
          exact absurd H (by simp)
      · rw [if_neg c6] at H
        exact absurd H (by simp)
def laws_a2Long.f (l0 : List Int) (l1 : List Int) : Option (Bool) := if (l0.length : Int) > 3000 then (some true) else (some (decide ((l1.length : Int) > 3000)))
set_option maxHeartbeats 8000000 in
set_option maxRecDepth 100000 in
theorem laws_a2Long.calls (A0 : Option Addr) (c0 : Nat) (l0 : List Int) (A1 : Option Addr) (c1 : Nat) (l1 : List Int) (r : Bool) (w : World) (hr0 : Kd.C (Kd.int .u8) w A0 l0.length l0) (hc0 : l0.length ≤ c0) (hr1 : Kd.C (Kd.int .u8) w A1 l1.length l1) (hc1 : l1.length ≤ c1) (h : laws_a2Long.f l0 l1 = some r) :
    Calls Try.prog 4 #[.slice A0 l0.length c0, .slice A1 l1.length c1] w fun e w' => e = .returned (.bool r) ∧ Drawn0 w w' := by
  have HR0 := Aside0.mk hr0
  have HC0 := Aside0.mk hc0
  clear hr0 hc0
  have HR1 := Aside0.mk hr1
  have HC1 := Aside0.mk hc1
  clear hr1 hc1
  have H : (if (l0.length : Int) > 3000 then (some true) else (some (decide ((l1.length : Int) > 3000)))) = some r := h
  clear h
  by_cases c3 : (l0.length : Int) > 3000
  · rw [if_pos c3] at H
    have c3b0 : decide (3000 < (l0.length : Int)) = true := decide_eq_true c3
    have c3b1 : decide (3000 < l0.length) = true := decide_eq_true (by omega)
    clear c3
    obtain rfl := Option.some.inj H
    go_enter Try.func4, Try.ntmps4
    go_wp2
    go_ret
    exact ⟨by first | rfl | (simp; done) | (simp [*]; done), by repeat (first | exact Drawn0.refl _ | apply Drawn0.step)⟩
  · rw [if_neg c3] at H
    have c3b0 : decide (3000 < (l0.length : Int)) = false := decide_eq_false c3
    have c3b1 : decide (3000 < l0.length) = false := decide_eq_false (by omega)
    clear c3
    obtain rfl := Option.some.inj H
    go_enter Try.func4, Try.ntmps4
    go_wp2
    go_ret
    exact ⟨by first | rfl | (simp; done) | (simp [*]; done), by repeat (first | exact Drawn0.refl _ | apply Drawn0.step)⟩
def laws_a2Long.Pure : Prop := ∀ (l0 : List Int) (l1 : List Int), l0.length ≤ maxLen → l0.length * 1 ≤ 140737488351232 → (∀ x ∈ l0, (Lit.int .u8 x).wf = true) → l1.length ≤ maxLen → l1.length * 1 ≤ 140737488351232 → (∀ x ∈ l1, (Lit.int .u8 x).wf = true) → laws_a2Long.f l0 l1 = some true
end Go.Proofs.Ytcibhhkpnakkgaa.Q
namespace Go.Proofs.Ytcibhhkpnakkgaa.Pure
open Go.RowKit Go.Proofs.YtcibhhkpnakkgaaW.PrintWords Go.Proofs.YtcibhhkpnakkgaaW.PrintMore Go.Proofs.Ytcibhhkpnakkgaa.Q Go.Proofs.Ytcibhhkpnakkgaa.Ext
set_option linter.unusedVariables false
set_option linter.unusedSimpArgs false
theorem and255 (x : Int) : 0 ≤ Go.bits .and .u64 x 255 ∧ Go.bits .and .u64 x 255 ≤ 255 := by
  have h2 : (BitVec.ofInt 64 (255 : Int)).toNat = 255 := by decide
  have hle : (BitVec.ofInt 64 x).toNat &&& 255 ≤ 255 := Nat.and_le_right
  have e : Go.bits .and .u64 x 255 = IntKind.u64.wrap (((BitVec.ofInt 64 x) &&& (BitVec.ofInt 64 255)).toNat : Int) := rfl
  rw [e, BitVec.toNat_and, h2, IntKind.wrap_u64]
  omega
def byB (l : List Int) : Prop := ∀ y ∈ l, 0 ≤ y ∧ y < 256
theorem tmod_bd {v n : Int} (hv : 0 ≤ v) (hn : 0 < n) : 0 ≤ Int.tmod v n ∧ Int.tmod v n < n := ⟨Int.tmod_nonneg n hv, Int.tmod_lt_of_pos v hn⟩
theorem next_ok (l : List Int) (hl : byB l) (p : Nat) (hp : p ≤ 1000000) (q : Int) : ∃ v q', spec_l00Src_next.f l p q = some (v, ((p + 1 : Nat) : Int), q') ∧ 0 ≤ v := by
  unfold spec_l00Src_next.f
  rw [wrap_succ p (by omega)]
  by_cases h : (p : Int) < (l.length : Int)
  · have hb := hl _ (rd_mem l p (by omega))
    rw [if_pos h, if_pos (by omega), if_pos (by omega)]
    exact ⟨_, _, rfl, by rw [w64 (by omega) (by omega)]; exact hb.1⟩
  · rw [if_neg h, if_neg (by omega)]
    refine ⟨_, _, rfl, ?_⟩
    have := and255 ((IntKind.u64.wrap ((IntKind.u64.wrap ((IntKind.u64.wrap (q * 6364136223846793005)) + 0)) + 1442695040888963407)) / 1099511627776)
    rw [w64 (by omega) (by omega)]
    exact this.1
theorem pick_ok (l : List Int) (hl : byB l) (p : Nat) (hp : p ≤ 1000000) (q n : Int) (h2 : 2 ≤ n) (hn : n ≤ 200) : ∃ v q', spec_l00Src_pick.f l p q n = some (v, ((p + 1 : Nat) : Int), q') ∧ 0 ≤ v ∧ v < n := by
  obtain ⟨v, q', e, hv⟩ := next_ok l hl p hp q
  unfold spec_l00Src_pick.f
  rw [if_neg (by omega), e, Option.bind_some, if_neg (by omega), if_neg (by omega)]
  exact ⟨_, _, rfl, tmod_bd hv (by omega)⟩
theorem times_l0' (l : List Int) (hl : byB l) : ∀ (c p : Nat) (q : Int) (out : List Int), p + c ≤ 1000000 → out.length + c ≤ 1000 → ∃ T : List Int, T.length = c ∧ (∀ x ∈ T, 1 ≤ x ∧ x ≤ 40) ∧ ∀ k, c < k → spec_A2Times.l0 k out c l p q = some (out ++ T) := by
  intro c
  induction c with
  | zero =>
    intro p q out hp ho
    refine ⟨[], rfl, by simp, fun k hk => ?_⟩
    obtain ⟨k, rfl⟩ := some_k hk
    unfold spec_A2Times.l0
    rw [if_neg (by omega), List.append_nil]
  | succ c ih =>
    intro p q out hp ho
    obtain ⟨v, q', e, h0, h1⟩ := pick_ok l hl p (by omega) q 40 (by omega) (by omega)
    obtain ⟨T, t1, t2, t3⟩ := ih (p + 1) q' (out ++ [wrap64 (1 + v)]) (by omega) (by simp; omega)
    refine ⟨wrap64 (1 + v) :: T, by simp [t1], fun x hx => ?_, fun k hk => ?_⟩
    · rcases List.mem_cons.1 hx with rfl | hx
      · rw [w64 (by omega) (by omega)]; omega
      · exact t2 x hx
    · obtain ⟨k, rfl⟩ := some_k hk
      unfold spec_A2Times.l0
      rw [if_pos (by omega), e, Option.bind_some, if_pos (by omega)]
      have := t3 k (by omega)
      rw [show wrap64 (((c + 1 : Nat) : Int) - 1) = (c : Int) from by rw [w64 (by omega) (by omega)]; omega]
      rw [this, List.append_assoc]
      rfl
theorem times_ok (l : List Int) (hl : byB l) : ∃ T : List Int, T.length ≤ 6 ∧ (∀ x ∈ T, 1 ≤ x ∧ x ≤ 40) ∧ ∀ k, 10 < k → spec_A2Times.f k l = some T := by
  obtain ⟨v, q', e, h0, h1⟩ := pick_ok l hl 0 (by omega) 0 7 (by omega) (by omega)
  obtain ⟨c, rfl⟩ := Int.eq_ofNat_of_zero_le h0
  obtain ⟨T, t1, t2, t3⟩ := times_l0' l hl c (0 + 1) q' [] (by omega) (by simp; omega)
  refine ⟨T, by omega, t2, fun k hk => ?_⟩
  unfold spec_A2Times.f spec_l00From.f
  rw [Option.bind_some]
  show (spec_l00Src_pick.f l 0 0 7).bind _ = _
  have e' : spec_l00Src_pick.f l 0 0 7 = some ((c : Int), ((0 + 1 : Nat) : Int), q') := e
  rw [e', Option.bind_some]
  have := t3 k (by omega)
  rw [List.nil_append] at this
  exact this
def atF (l : List Int) (a n : Int) : Int := if a ≥ (l.length : Int) then 0 else Int.tmod (rd l a) n
theorem at_ok (l : List Int) (hl : byB l) (a : Nat) (n : Int) (hn : 1 ≤ n) : laws_a2At.f l a n = some (atF l a n) ∧ 0 ≤ atF l a n ∧ atF l a n < n := by
  unfold laws_a2At.f atF
  by_cases h : (a : Int) ≥ (l.length : Int)
  · rw [if_pos h, if_pos h]; exact ⟨rfl, Int.le_refl _, by omega⟩
  · have hb := hl _ (rd_mem l a (by omega))
    rw [if_neg h, if_neg h, if_neg (by omega), if_pos (by omega), if_pos (by omega), if_neg (by omega), w64 (by omega) (by omega)]
    exact ⟨rfl, tmod_bd hb.1 (by omega)⟩
theorem same_l0 (l : List Int) (hl : l.length ≤ 1048576) : ∀ (d k n : Nat), n + d = l.length → d < k → spec_l00Same.l0 k l l n = some true := by
  intro d
  induction d with
  | zero =>
    intro k n hn hk
    obtain ⟨k, rfl⟩ := some_k hk
    unfold spec_l00Same.l0
    rw [if_neg (by omega)]
  | succ d ih =>
    intro k n hn hk
    obtain ⟨k, rfl⟩ := some_k hk
    have := ih k (n + 1) (by omega) (by omega)
    unfold spec_l00Same.l0
    simp only [wrap_succ n (by omega)]
    rw [show ((n + 1 : Nat) : Int) = (n : Int) + 1 from by omega] at this
    simp [this, show (n : Int) < (l.length : Int) from by omega, show (0 : Int) ≤ (n : Int) from by omega]
theorem same_ok {k : Nat} (l : List Int) (hl : l.length ≤ 1048576) (hk : l.length < k) : spec_A2Same.f k l l = some true := by
  unfold spec_A2Same.f spec_l00Same.f
  rw [if_pos rfl]
  have := same_l0 l hl l.length k 0 (by omega) hk
  rw [show ((0 : Nat) : Int) = 0 from rfl] at this
  rw [this]; rfl
theorem has_ok {k : Nat} (l : List Int) (x : Int) (hl : l.length ≤ 1048576) (hk : l.length < k) : spec_A2Has.f k l x = some (l.any (fun y => x == y)) := by
  unfold spec_A2Has.f
  rw [has_eq l x hl hk]; rfl
theorem timesB_of {t : List Int} (h : ∀ x ∈ t, 1 ≤ x ∧ x ≤ 40) : timesB t = true := List.all_eq_true.2 fun x hx => inB_iff.2 (by have := h x hx; omega)
theorem timesC_ok {b : Bool} {t : List Int} {m : Int} (hb : b = true) (ht : timesB t = true) (hl : (t.length : Int) ≤ m) : timesC b t m = 0 := by
  unfold timesC
  rw [hb, ht, Bool.and_self, if_pos rfl, if_pos hl]
theorem lines_both (t : List Int) (cut : Nat) (hb : timesB t = true) (hl : t.length ≤ 6) (h1 : 1 ≤ cut) (h2 : cut ≤ 6) {k : Nat} (hk : 1300000 < k) :
    impl_ShareLines.f k t cut = some ((giveC t cut true).1, (giveC t cut true).2, 0) ∧ spec_ShareLines.f k t cut = some ((giveC t cut true).1, (giveC t cut true).2, 0) := by
  have hs : ∀ k, t.length < k → spec_ShareLines.f k t cut = some ((giveC t cut true).1, (giveC t cut true).2, 0) := by
    intro k hk
    unfold spec_ShareLines.f
    rw [cutters_eq]
    simp only [Option.bind_some]
    rw [spec_times_eq t _ 12 (by omega) (by omega) hk]
    simp only [Option.bind_some]
    rw [if_pos (timesC_ok (inB_iff.2 (by omega)) hb (by omega))]
    unfold spec_l05Shared.f
    rw [if_pos ⟨by omega, by omega, by omega⟩, Int.toNat_natCast]
    rfl
  obtain ⟨r, _, e1, e2⟩ := lines_same t cut (by omega)
  have := (e1 k (by omega)).symm.trans (hs k (by omega))
  exact ⟨(e2 k (by omega)).trans this, hs k (by omega)⟩
theorem any_both (t : List Int) (cut : Nat) (hb : timesB t = true) (hl : t.length ≤ 6) (h1 : 1 ≤ cut) (h2 : cut ≤ 6) {k : Nat} (hk : 1300000 < k) :
    impl_ShareAny.f t cut = some ((giveC t cut false).1, (giveC t cut false).2, 0) ∧ spec_ShareAny.f k t cut = some ((giveC t cut false).1, (giveC t cut false).2, 0) := by
  have e : shareC t cut = ((giveC t cut false).1, (giveC t cut false).2, 0) := by
    unfold shareC
    rw [if_pos (timesC_ok (inB_iff.2 (by omega)) hb (by omega)), Int.toNat_natCast, share_same t cut hb (by omega)]
  refine ⟨?_, ?_⟩
  · unfold impl_ShareAny.f; rw [e]
  · rw [spec_share_eq t cut (by omega) (by omega), e]
def dayN (t : List Int) (day : Int) : Int := if t.length = 0 then 0 else lastI day 0 0 t + 1
theorem days_both (t : List Int) (day : Int) (ht : ∀ x ∈ t, 1 ≤ x ∧ x ≤ 40) (hl : t.length ≤ 6) (h1 : 40 ≤ day) (h2 : day ≤ 1000) {k : Nat} (hk : 1300000 < k) :
    impl_DaysFor.f t day = some (greedyI day 0 0 t, dayN t day, 0) ∧ spec_DaysFor.f k t day = some (greedyI day 0 0 t, dayN t day, 0) := by
  have hb := timesB_of ht
  have e : daysC t day = (greedyI day 0 0 t, dayN t day, 0) := by
    unfold daysC dayN
    rw [if_pos (timesC_ok (inB_iff.2 (by omega)) hb (by omega))]
    have hn : t.any (fun x => decide (day < x)) = false := by
      rw [List.any_eq_false]
      intro x hx
      have := ht x hx
      simp; omega
    rw [hn]
    rfl
  rw [impl_days_eq, spec_days_eq t day (by omega) (by omega), e]
  exact ⟨rfl, rfl⟩
theorem late_both (t d : List Int) (hb : timesB t = true) (hl : t.length ≤ 12) (hd : d.length = t.length) (hd2 : ∀ x ∈ d, 0 ≤ x ∧ x ≤ 1200000) {k : Nat} (hk : 1300000 < k) :
    impl_LateLines.f k t d = some (lateL t d 0 (upto t.length), 0) ∧ spec_LateLines.f k t d = some (lateL t d 0 (upto t.length), 0) := by
  have hD : duesB t d = true := by
    unfold duesB
    rw [Bool.and_eq_true]
    exact ⟨List.all_eq_true.2 fun x hx => inB_iff.2 (hd2 x hx), decide_eq_true hd.symm⟩
  have e : lateC t d = (lateL t d 0 (upto t.length), 0) := by
    unfold lateC
    rw [if_pos (timesC_ok hD hb (by omega))]
  rw [impl_lateLines_eq t d (by omega) (by omega), spec_lateLines_eq t d (by omega) (by omega) (by omega), e]
  exact ⟨rfl, rfl⟩
theorem few_both (t d : List Int) (hb : timesB t = true) (hl : t.length ≤ 7) (hd : d.length = t.length) (hd2 : ∀ x ∈ d, 0 ≤ x ∧ x ≤ 1200000) {k : Nat} (hk : 1300000 < k) :
    impl_FewestLate.f t d = some ((chooseM t d t.length [] ([], -1)).1, (chooseM t d t.length [] ([], -1)).2, 0) ∧ spec_FewestLate.f k t d = some ((chooseM t d t.length [] ([], -1)).1, (chooseM t d t.length [] ([], -1)).2, 0) := by
  have hD : duesB t d = true := by
    unfold duesB
    rw [Bool.and_eq_true]
    exact ⟨List.all_eq_true.2 fun x hx => inB_iff.2 (hd2 x hx), decide_eq_true hd.symm⟩
  have e : fewC t d = ((chooseM t d t.length [] ([], -1)).1, (chooseM t d t.length [] ([], -1)).2, 0) := by
    unfold fewC
    rw [if_pos (timesC_ok hD hb (by omega))]
  refine ⟨?_, ?_⟩
  · unfold impl_FewestLate.f; rw [e]
  · rw [spec_few_eq t d (by omega) (by omega) (by omega), e]
theorem lines_ex (t : List Int) (cut : Nat) (hb : timesB t = true) (hl : t.length ≤ 6) (h1 : 1 ≤ cut) (h2 : cut ≤ 6) : ∃ (K : Nat) (X : List Int) (M : Int), Shd t cut true X M ∧ impl_ShareLines.f K t cut = some (X, M, 0) ∧ spec_ShareLines.f K t cut = some (X, M, 0) :=
  ⟨1300001, _, _, shd_give t cut true hb (by omega) (by omega), lines_both t cut hb hl h1 h2 (by omega)⟩
theorem any_ex (t : List Int) (cut : Nat) (hb : timesB t = true) (hl : t.length ≤ 6) (h1 : 1 ≤ cut) (h2 : cut ≤ 6) : ∃ (K : Nat) (X : List Int) (M : Int), Shd t cut false X M ∧ impl_ShareAny.f t cut = some (X, M, 0) ∧ spec_ShareAny.f K t cut = some (X, M, 0) :=
  ⟨1300001, _, _, shd_give t cut false hb (by omega) (by omega), any_both t cut hb hl h1 h2 (by omega)⟩
theorem days_ex (t : List Int) (day : Int) (ht : ∀ x ∈ t, 1 ≤ x ∧ x ≤ 40) (hl : t.length ≤ 6) (h1 : 40 ≤ day) (h2 : day ≤ 1000) : ∃ (K : Nat) (X : List Int) (M : Int), Dys t day X M ∧ impl_DaysFor.f t day = some (X, M, 0) ∧ spec_DaysFor.f K t day = some (X, M, 0) :=
  ⟨1300001, _, _, dys_is t day (timesB_of ht) (by omega) (fun x hx => by have := ht x hx; omega), days_both t day ht hl h1 h2 (by omega)⟩
theorem late_ex (t d : List Int) (hb : timesB t = true) (hl : t.length ≤ 12) (hd : d.length = t.length) (hd2 : ∀ x ∈ d, 0 ≤ x ∧ x ≤ 1200000) : ∃ (K : Nat) (L : List Int), L = lateL t d 0 (upto t.length) ∧ impl_LateLines.f K t d = some (L, 0) ∧ spec_LateLines.f K t d = some (L, 0) :=
  ⟨1300001, _, rfl, late_both t d hb hl hd hd2 (by omega)⟩
theorem few_ex (t d : List Int) (hb : timesB t = true) (hl : t.length ≤ 7) (hd : d.length = t.length) (hd2 : ∀ x ∈ d, 0 ≤ x ∧ x ≤ 1200000) : ∃ (K : Nat) (X : List Int) (M : Int), Few t d X M ∧ impl_FewestLate.f t d = some (X, M, 0) ∧ spec_FewestLate.f K t d = some (X, M, 0) :=
  ⟨1300001, _, _, few_is t d, few_both t d hb hl hd hd2 (by omega)⟩
theorem at_cut (l : List Int) (hl : byB l) : ∃ (r : Int) (cut : Nat), laws_a2At.f l 0 4 = some r ∧ wrap64 (1 + r) = (cut : Int) ∧ 1 ≤ cut ∧ cut ≤ 4 := by
  obtain ⟨e, h0, h1⟩ : laws_a2At.f l 0 4 = some (atF l 0 4) ∧ 0 ≤ atF l 0 4 ∧ atF l 0 4 < 4 := at_ok l hl 0 4 (by omega)
  exact ⟨_, (1 + atF l 0 4).toNat, e, by rw [w64 (by omega) (by omega)]; omega, by omega, by omega⟩
theorem at_day (l : List Int) (hl : byB l) : ∃ r day : Int, laws_a2At.f l 1 60 = some r ∧ wrap64 (40 + r) = day ∧ 40 ≤ day ∧ day ≤ 99 := by
  obtain ⟨e, h0, h1⟩ : laws_a2At.f l 1 60 = some (atF l 1 60) ∧ 0 ≤ atF l 1 60 ∧ atF l 1 60 < 60 := at_ok l hl 1 60 (by omega)
  exact ⟨_, _, e, rfl, by rw [w64 (by omega) (by omega)]; omega, by rw [w64 (by omega) (by omega)]; omega⟩
end Go.Proofs.Ytcibhhkpnakkgaa.Pure
namespace Go.Proofs.Ytcibhhkpnakkgaa.Ext
open Go.RowKit Go.Proofs.Ytcibhhkpnakkgaa.Q Go.Proofs.Ytcibhhkpnakkgaa.Pure Go.Proofs.YtcibhhkpnakkgaaW.PrintWords Go.Proofs.YtcibhhkpnakkgaaW.PrintLast Go.Proofs.YtcibhhkpnakkgaaW.PrintMore
set_option linter.unusedVariables false
set_option linter.unusedSimpArgs false
def rowI (n : Nat) (f : Nat → Int) : Array Value := ((List.range n).map fun k => Value.int .i64 (f k)).toArray
theorem rowI_get {n k : Nat} (f : Nat → Int) (h : k < n) : (rowI n f)[k]? = some (.int .i64 (f k)) := by
  unfold rowI
  rw [List.getElem?_toArray, List.getElem?_map, List.getElem?_range h]
  rfl
theorem rowI_zero (n : Nat) : madeCells #[Value.int .i64 0] n = rowI n (fun _ => 0) := by
  apply Array.toList_inj.1
  unfold rowI madeCells
  simp
  intro a _
  rw [Nat.mod_one]
  rfl
theorem rowI_set {n k : Nat} (f : Nat → Int) (v : Int) (h : k < n) : (rowI n f).setIfInBounds k (.int .i64 v) = rowI n (Pure.up f k v) := by
  unfold rowI
  rw [List.setIfInBounds_toArray]
  congr 1
  apply List.ext_getElem
  · simp
  · intro i h1 h2
    rw [List.getElem_set]
    simp only [List.getElem_map, List.getElem_range]
    unfold Pure.up
    by_cases e : k = i
    · subst e; rw [if_pos rfl, if_pos rfl]
    · rw [if_neg e, if_neg (fun q => e q.symm)]
abbrev RowAt (w : World) (g n : Nat) (f : Nat → Int) : Prop := w.heap[g]? = some (.cells (rowI n f) 2 (0, 0))
theorem RowAt.cell {w : World} {g n : Nat} {f : Nat → Int} (h : RowAt w g n f) {k : Nat} (hk : k < n) : w.cell? ⟨g, k, none⟩ = some (.int .i64 (f k)) := (blk_cell h k).trans (rowI_get f hk)
theorem RowAt.put {w : World} {g n : Nat} {f : Nat → Int} (h : RowAt w g n f) {k : Nat} (hk : k < n) (v : Int) : RowAt (w.setCell ⟨g, k, none⟩ (.int .i64 v)) g n (Pure.up f k v) := blk_put h k _ (rowI_set f v hk)
def ownL (l : List Int) (cut n : Nat) : List Int := (List.range n).map fun i => atF l ((i + 2 : Nat) : Int) cut
theorem ownL_len (l : List Int) (cut n : Nat) : (ownL l cut n).length = n := by unfold ownL; simp
theorem ownL_rd (l : List Int) (cut : Nat) {n i : Nat} (h : i < n) : rd (ownL l cut n) (i : Int) = atF l ((i + 2 : Nat) : Int) cut := by
  have e : (ownL l cut n)[i]? = some (atF l ((i + 2 : Nat) : Int) cut) := by unfold ownL; rw [List.getElem?_map, List.getElem?_range h]; rfl
  simp [rd, List.getD_eq_getElem?_getD, e]
theorem ownL_mem {l : List Int} (hl : byB l) {cut : Nat} (h1 : 1 ≤ cut) (n : Nat) : ∀ y ∈ ownL l cut n, 0 ≤ y ∧ y < (cut : Int) := by
  intro y hy
  unfold ownL at hy
  obtain ⟨i, _, rfl⟩ := List.mem_map.1 hy
  exact (at_ok l hl (i + 2) cut (by omega)).2
theorem fin_bd : ∀ (t x : List Int) (s : Nat → Int) (B : Int), (∀ y ∈ t, 1 ≤ y ∧ y ≤ 40) → (∀ k, 0 ≤ s k ∧ s k ≤ B) → ∀ k, 0 ≤ finF t x s k ∧ finF t x s k ≤ B + 40 * t.length
  | [], x, s, B, _, h, k => by rw [finF_nil]; have := h k; simp; omega
  | a :: t, [], s, B, _, h, k => by have := h k; unfold finF; simp; omega
  | a :: t, b :: x, s, B, ht, h, k => by
      have ha := ht a (by simp)
      have := fin_bd t x (up s b.toNat (s b.toNat + a)) (B + 40) (fun y hy => ht y (by simp [hy])) (fun k => by
        unfold Pure.up
        have h1 := h k
        have h2 := h b.toNat
        split <;> omega) k
      unfold finF
      simp only [List.length_cons]
      omega
theorem fin_bd0 {T : List Int} (ht : ∀ y ∈ T, 1 ≤ y ∧ y ≤ 40) (hl : T.length ≤ 6) (x : List Int) (i k : Nat) : 0 ≤ finF (T.take i) x (fun _ => 0) k ∧ finF (T.take i) x (fun _ => 0) k ≤ 240 := by
  have := fin_bd (T.take i) x (fun _ => 0) 0 (fun y hy => ht y (List.mem_of_mem_take hy)) (fun _ => by simp) k
  have h2 : (T.take i).length ≤ 6 := by simp; omega
  omega
theorem sum_bd0 : ∀ (t : List Int), (∀ y ∈ t, 1 ≤ y ∧ y ≤ 40) → 0 ≤ sumL t ∧ sumL t ≤ 40 * t.length
  | [], _ => by simp [sumL]
  | a :: t, h => by
      have := sum_bd0 t (fun y hy => h y (by simp [hy]))
      have ha := h a (by simp)
      have e : sumL (a :: t) = a + sumL t := by simp [sumL]
      rw [e]
      simp only [List.length_cons]
      omega
theorem rd_mem2 (l : List Int) (n : Nat) (h : n < l.length) : rd l (n : Int) ∈ l := by
  have e : rd l (n : Int) = l[n] := by simp [rd, List.getD_eq_getElem?_getD, List.getElem?_eq_getElem h]
  rw [e]; exact List.getElem_mem h
theorem at_nat {w : World} {A : Option Addr} {n : Nat} {xs : List Int} (h : (Kd.int .i64).C w A n xs) {i : Nat} (hi : i < n) : ∃ ad, A = some ad ∧ w.cell? (ad.add i) = some (.int .i64 (rd xs (i : Int))) := by
  obtain ⟨ad, e, hc⟩ := Kd.at_int h (i : Int) (by omega) (by omega)
  rw [Int.toNat_natCast] at hc
  exact ⟨ad, e, hc⟩
def lexSteps (md : Region.Mode) (ops : Array Oper) : Nat → Nat → Array Bool → Bool
  | 0, _, _ => true
  | n + 1, k, listed => (Region.ready md ops listed).contains k && Region.free md ops listed k && lexSteps md ops n (k + 1) (listed.setIfInBounds k true)
def lexAfter : Nat → Nat → Array Bool → Array Bool
  | 0, _, listed => listed
  | n + 1, k, listed => lexAfter n (k + 1) (listed.setIfInBounds k true)
theorem lex_split (md : Region.Mode) (ops : Array Oper) : ∀ (n m k : Nat) (L L' : Array Bool), lexSteps md ops n k L = true → lexAfter n k L = L' → Region.lexFrom md ops m (k + n) L' = true → Region.lexFrom md ops (m + n) k L = true
  | 0, m, k, L, L', _, h2, h3 => by subst h2; exact h3
  | n + 1, m, k, L, L', h1, h2, h3 => by
      simp only [lexSteps, Bool.and_eq_true] at h1
      rw [show m + (n + 1) = (m + n) + 1 from rfl]
      simp only [Region.lexFrom, Bool.and_eq_true]
      exact ⟨h1.1, lex_split md ops n m (k + 1) _ L' h1.2 h2 (by rw [show k + 1 + n = k + (n + 1) by omega]; exact h3)⟩
def lexL (k n : Nat) : Array Bool := (List.replicate k true ++ List.replicate (n - k) false).toArray
set_option maxRecDepth 100000 in
theorem lex23_0 : lexSteps .any (opsOf Try.f3 23) 22 0 (lexL 0 88) = true := by kernel_rfl
set_option maxRecDepth 100000 in
theorem lex23_1 : lexSteps .any (opsOf Try.f3 23) 22 22 (lexL 22 88) = true := by kernel_rfl
set_option maxRecDepth 100000 in
theorem lex23_2 : lexSteps .any (opsOf Try.f3 23) 22 44 (lexL 44 88) = true := by kernel_rfl
set_option maxRecDepth 100000 in
theorem lex23_3 : lexSteps .any (opsOf Try.f3 23) 22 66 (lexL 66 88) = true := by kernel_rfl
set_option maxRecDepth 100000 in
theorem lex23 : Region.lexB .any (opsOf Try.f3 23) = true := by
  unfold Region.lexB
  rw [Bool.and_eq_true]
  refine ⟨by kernel_rfl, ?_⟩
  rw [show (opsOf Try.f3 23).size = 66 + 22 by kernel_rfl]
  refine lex_split .any _ 22 66 0 _ (lexL 22 88) lex23_0 (by kernel_rfl) ?_
  refine lex_split .any _ 22 44 _ _ (lexL 44 88) lex23_1 (by kernel_rfl) ?_
  refine lex_split .any _ 22 22 _ _ (lexL 66 88) lex23_2 (by kernel_rfl) ?_
  refine lex_split .any _ 22 0 _ _ (lexL 88 88) lex23_3 (by kernel_rfl) ?_
  kernel_rfl
theorem lex_cast {l : List Oper} {o : Array Oper} (h : Region.lexB .any o = true) (e : o = l.toArray) : Region.lexB .any l.toArray = true := e ▸ h
theorem cellUp {w w1 : World} (hb : Below w.heap.size w w1) {p : Addr} {v : Value} (h : w.cell? p = some v) : w1.cell? p = some v := (hb.cell (World.block_lt_of_cell? w _ h)).trans h
def mxF (f : Nat → Int) : Nat → Int
  | 0 => 0
  | n + 1 => max (mxF f n) (f n)
theorem mxF_ge (f : Nat → Int) : ∀ n k, k < n → f k ≤ mxF f n
  | n + 1, k, h => by
      unfold mxF
      by_cases e : k = n
      · subst e; omega
      · have := mxF_ge f n k (by omega); omega
theorem mxF_0 (f : Nat → Int) : ∀ n, 0 ≤ mxF f n
  | 0 => by unfold mxF; omega
  | n + 1 => by unfold mxF; have := mxF_0 f n; omega
theorem mxF_le (f : Nat → Int) (v : Int) (h0 : 0 ≤ v) (h : ∀ k, f k ≤ v) : ∀ n, mxF f n ≤ v
  | 0 => by unfold mxF; omega
  | n + 1 => by unfold mxF; have := mxF_le f v h0 h n; have := h n; omega
theorem mxF_is (f : Nat → Int) (v : Int) (n : Nat) (h0 : 0 ≤ v) (h : ∀ k, f k ≤ v) (hh : v = 0 ∨ ∃ k, k < n ∧ f k = v) : mxF f n = v := by
  have h1 := mxF_le f v h0 h n
  have h2 := mxF_0 f n
  rcases hh with e | ⟨k, hk, e⟩
  · omega
  · have := mxF_ge f n k hk; omega
def dueL (l : List Int) (n : Nat) : List Int := (List.range n).map fun i => atF l ((i + 20 : Nat) : Int) 120
theorem dueL_len (l : List Int) (n : Nat) : (dueL l n).length = n := by unfold dueL; simp
theorem dueL_succ (l : List Int) (n : Nat) : dueL l (n + 1) = dueL l n ++ [atF l ((n + 20 : Nat) : Int) 120] := by unfold dueL; rw [List.range_succ, List.map_append]; rfl
theorem dueL_mem {l : List Int} (hl : byB l) (n : Nat) : ∀ y ∈ dueL l n, 0 ≤ y ∧ y < 120 := by
  intro y hy
  unfold dueL at hy
  obtain ⟨i, _, rfl⟩ := List.mem_map.1 hy
  exact (at_ok l hl (i + 20) 120 (by omega)).2
def turnL (t x : List Int) (n : Nat) : List Int := (x.take n).map fun y => rd t y
theorem turnL_len (t x : List Int) {n : Nat} (h : n ≤ x.length) : (turnL t x n).length = n := by unfold turnL; simp; omega
theorem turnL_succ (t x : List Int) {n : Nat} (h : n < x.length) : turnL t x (n + 1) = turnL t x n ++ [rd t (rd x (n : Int))] := by unfold turnL; rw [take_rd x n h, List.map_append]; rfl
theorem turnL_rd (t x : List Int) {i : Nat} (h : i < x.length) : rd (turnL t x x.length) (i : Int) = rd t (rd x (i : Int)) := by
  have e : (turnL t x x.length)[i]? = some (rd t (rd x (i : Int))) := by
    unfold turnL
    rw [List.take_length, List.getElem?_map, List.getElem?_eq_getElem h, Option.map_some, rd_get x i h]
  simp [rd, List.getD_eq_getElem?_getD, e]
theorem turnL_mem {t x : List Int} {n : Nat} (hx : inds x t.length) : ∀ y ∈ turnL t x n, y ∈ t := by
  intro y hy
  unfold turnL at hy
  obtain ⟨z, hz, rfl⟩ := List.mem_map.1 hy
  obtain ⟨h0, h1⟩ := hx z (List.mem_of_mem_take hz)
  have := rd_mem2 t z.toNat (by omega)
  rwa [Int.toNat_of_nonneg h0] at this
theorem sep_fresh {w0 : Nat} {W : World} {ok : Nat → Prop} {v v1 u : Value} {ys : List Int} (hs : ∀ k, v.ownBlock = some k → some k ≠ u.ownBlock) (hat : v1.ownBlock = v.ownBlock ∨ ∃ b, v1.ownBlock = some b ∧ W.heap.size ≤ b)
    (hu : Kd.R (Kd.int .i64) 2 W w0 ok u ys) : ∀ k, v1.ownBlock = some k → some k ≠ u.ownBlock := by
  intro k hk he
  rcases hat with h | ⟨b, h, hb⟩
  · exact hs k (h ▸ hk) he
  · rw [h] at hk
    injection hk with hk
    have := ((Kd.R_bound hu).1 k he.symm).2.2.1
    omega
theorem sep_symm {v u : Value} (hs : ∀ k, v.ownBlock = some k → some k ≠ u.ownBlock) : ∀ k, u.ownBlock = some k → some k ≠ v.ownBlock := fun k h1 h2 => hs k h2.symm h1.symm
def oshTab.T27 : Bool × List (List Nat × List Nat) := (true, [([], []), ([], []), ([], []), ([1, 2], [1, 2]), ([3], [3]), ([0, 4], [0, 4]), ([5], [5]), ([], []), ([], []), ([7, 8], [7, 8]), ([9], [9]), ([6, 10], [6, 10]), ([0, 4, 0, 1, 2, 3, 4, 5, 6, 7, 8, 9, 10, 11], [0, 4]), ([12, 11, 0, 1, 2, 3, 4, 5, 6, 7, 8, 9, 10, 11], [11, 12])])
def oshTab.B27 : List Nat := [0, 0, 0, 6, 14, 31, 63, 0, 0, 384, 896, 2047, 4095, 8191]
theorem oshTab.tab27 : rtab .any (opsOf Try.f3 27) = oshTab.T27 := by kernel_rfl
theorem oshTab.bits27 : waitsOk oshTab.T27.2 oshTab.B27 = true := by kernel_rfl
def oshTab.T28 : Bool × List (List Nat × List Nat) := (true, [([], []), ([], []), ([], []), ([1, 2], [1, 2]), ([3], [3]), ([0, 4], [0, 4]), ([5], [5]), ([], []), ([], []), ([7, 8], [7, 8]), ([9], [9]), ([6, 10], [6, 10]), ([0, 4, 0, 1, 2, 3, 4, 5, 6, 7, 8, 9, 10, 11], [0, 4]), ([12, 11, 0, 1, 2, 3, 4, 5, 6, 7, 8, 9, 10, 11], [11, 12])])
def oshTab.B28 : List Nat := [0, 0, 0, 6, 14, 31, 63, 0, 0, 384, 896, 2047, 4095, 8191]
theorem oshTab.tab28 : rtab .any (opsOf Try.f3 28) = oshTab.T28 := by kernel_rfl
theorem oshTab.bits28 : waitsOk oshTab.T28.2 oshTab.B28 = true := by kernel_rfl
def oshTab.T29 : Bool × List (List Nat × List Nat) := (true, [([], []), ([], []), ([], []), ([1, 2], [1, 2]), ([3], [3]), ([0, 4], [0, 4]), ([5], [5]), ([], []), ([], []), ([7, 8], [7, 8]), ([9], [9]), ([6, 10], [6, 10]), ([0, 4, 0, 1, 2, 3, 4, 5, 6, 7, 8, 9, 10, 11], [0, 4]), ([12, 11, 0, 1, 2, 3, 4, 5, 6, 7, 8, 9, 10, 11], [11, 12])])
def oshTab.B29 : List Nat := [0, 0, 0, 6, 14, 31, 63, 0, 0, 384, 896, 2047, 4095, 8191]
theorem oshTab.tab29 : rtab .any (opsOf Try.f3 29) = oshTab.T29 := by kernel_rfl
theorem oshTab.bits29 : waitsOk oshTab.T29.2 oshTab.B29 = true := by kernel_rfl
def oshTab.T30 : Bool × List (List Nat × List Nat) := (true, [([], []), ([], []), ([], []), ([2], [2]), ([], []), ([1, 3, 4], [1, 3, 4]), ([0, 5], [0, 5]), ([6], [6]), ([], []), ([], []), ([8, 9], [8, 9]), ([10], [10]), ([7, 11], [7, 11]), ([0, 5, 0, 1, 2, 3, 4, 5, 6, 7, 8, 9, 10, 11, 12], [0, 5]), ([13, 12, 5, 0, 1, 2, 3, 4, 5, 6, 7, 8, 9, 10, 11, 12], [12, 13])])
def oshTab.B30 : List Nat := [0, 0, 0, 4, 0, 30, 63, 127, 0, 0, 768, 1792, 4095, 8191, 16383]
theorem oshTab.tab30 : rtab .any (opsOf Try.f3 30) = oshTab.T30 := by kernel_rfl
theorem oshTab.bits30 : waitsOk oshTab.T30.2 oshTab.B30 = true := by kernel_rfl
end Go.Proofs.Ytcibhhkpnakkgaa.Ext
