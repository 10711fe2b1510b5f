/- Contracts and plain laws of functions of the given program; no conditions beside those in the theorems. -/
import Derived.Test.YticjkfacdmmopaaDoorC3BestStone
import Derived.Test.YticjkfacdmmopaaDoorC4BestStone
import Derived.Test.YticjkfacdmmopaaDoorC0BestStone
import Derived.Deep.Slices
namespace Go.Proofs.YticjkfacdmmopaaDoor.Ext
end Go.Proofs.YticjkfacdmmopaaDoor.Ext
namespace Go.Proofs.YticjkfacdmmopaaDoor.Q
open Go.Proofs.YticjkfacdmmopaaDoor.Ext
open Go.RowKit Go.Proofs.YticjkfacdmmopaaDoorW.PrintWords Go.Proofs.YticjkfacdmmopaaDoorW.PrintLast Go.Proofs.YticjkfacdmmopaaDoorW.PrintMore
attribute [local go_sem] max2_int min2_int max_two min_two max_three min_three max_four min_four
set_option linter.unusedVariables false
set_option linter.unusedSimpArgs false
def laws_FnExactBestStone.j0 : Nat → List ByteArray → List ByteArray → Bool → Option (Bool)
  | 0, _, _, _ => none
  | k + 1, x0, x9, x50 => if x50 = true then (some false) else ((laws_toStringS.f k x0).bind fun t1712 => ((laws_eqStringS.f k x9 t1712).bind fun t1715 => (if t1715 = true then (some true) else (some false))))
def laws_FnExactBestStone.f (k : Nat) (l0 : List ByteArray) (a1 : ByteArray) : Option (Bool) := if (a1.size : Int) > 1048576 then (some true) else ((laws_szStringS.f k l0 1048576).bind fun t1699 => (if t1699 < 0 then (some true) else ((laws_toStringS.f k l0).bind fun t1700 => ((spec_BestStone.f k t1700 a1).bind fun bt1703 => ((laws_toStringS.f k l0).bind fun t1706 => ((impl_BestStone.f k t1706 a1).bind fun bt1709 => (if bt1709.1 = bt1703.1 then (if bt1709.2.1 = bt1703.2.1 then (laws_FnExactBestStone.j0 k l0 t1706 (bt1709.2.2 != bt1703.2.2)) else (laws_FnExactBestStone.j0 k l0 t1706 true)) else (laws_FnExactBestStone.j0 k l0 t1706 true))))))))
theorem laws_FnExactBestStone.mono_l : ∀ k, (∀ y0 y1 y2, LeO (laws_FnExactBestStone.j0 k y0 y1 y2) (laws_FnExactBestStone.j0 (k + 1) y0 y1 y2))
  | 0 => fun _ _ _ r h => by simp [laws_FnExactBestStone.j0] at h
  | k + 1 => by
    have ih0 := laws_FnExactBestStone.mono_l k
    · intro y0 y1 y2
      unfold laws_FnExactBestStone.j0
      repeat' first
      | (with_reducible exact ih0 _ _ _)
      | (with_reducible exact impl_BestStone.mono _ _ _)
      | (with_reducible exact laws_eqStringS.mono _ _ _)
      | (with_reducible exact laws_szStringS.mono _ _ _)
      | (with_reducible exact laws_toStringS.mono _ _)
      | (with_reducible exact spec_BestStone.mono _ _ _)
      | (with_reducible exact LeO.refl _)
      | (with_reducible exact LeO.none _)
      | (with_reducible refine LeO.ite ?_ ?_)
      | (with_reducible refine LeO.bind ?_ (fun _ => ?_))
      | exact ih0 _ _ _
      | exact impl_BestStone.mono _ _ _
      | exact laws_eqStringS.mono _ _ _
      | exact laws_szStringS.mono _ _ _
      | exact laws_toStringS.mono _ _
      | exact spec_BestStone.mono _ _ _
      | exact LeO.none _
      | refine LeO.ite ?_ ?_
      | refine LeO.bind ?_ (fun _ => ?_)
theorem laws_FnExactBestStone.mono : ∀ a0 a1 k, LeO (laws_FnExactBestStone.f k a0 a1) (laws_FnExactBestStone.f (k + 1) a0 a1) := by
  intro a0 a1 k
  have ih0 := laws_FnExactBestStone.mono_l k
  unfold laws_FnExactBestStone.f
  repeat' first
      | (with_reducible exact ih0 _ _ _)
      | (with_reducible exact impl_BestStone.mono _ _ _)
      | (with_reducible exact laws_eqStringS.mono _ _ _)
      | (with_reducible exact laws_szStringS.mono _ _ _)
      | (with_reducible exact laws_toStringS.mono _ _)
      | (with_reducible exact spec_BestStone.mono _ _ _)
      | (with_reducible exact LeO.refl _)
      | (with_reducible exact LeO.none _)
      | (with_reducible refine LeO.ite ?_ ?_)
      | (with_reducible refine LeO.bind ?_ (fun _ => ?_))
      | exact ih0 _ _ _
      | exact impl_BestStone.mono _ _ _
      | exact laws_eqStringS.mono _ _ _
      | exact laws_szStringS.mono _ _ _
      | exact laws_toStringS.mono _ _
      | exact spec_BestStone.mono _ _ _
      | exact LeO.none _
      | refine LeO.ite ?_ ?_
      | refine LeO.bind ?_ (fun _ => ?_)
set_option maxHeartbeats 8000000 in
set_option maxRecDepth 100000 in
theorem laws_FnExactBestStone.calls (k : Nat) (A0 : Option Addr) (c0 : Nat) (l0 : List ByteArray) (a1 : ByteArray) (r : Bool) (w : World) (hr0 : Kd.C Kd.string w A0 l0.length l0) (hc0 : l0.length ≤ c0) (hG : GlobM w) (h : laws_FnExactBestStone.f k l0 a1 = some r) :
    Calls Tryd.prog 16 #[.slice A0 l0.length c0, .string a1] w fun e w' => e = .returned (.bool r) ∧ Below w.heap.size w w' := by
  have HG := Aside0.mk hG
  clear hG
  have HR0 := Aside0.mk hr0
  have HC0 := Aside0.mk hc0
  clear hr0 hc0
  have HB := Aside0.mk (Below.refl w.heap.size w)
  have H : (if (a1.size : Int) > 1048576 then (some true) else ((laws_szStringS.f k l0 1048576).bind fun t1699 => (if t1699 < 0 then (some true) else ((laws_toStringS.f k l0).bind fun t1700 => ((spec_BestStone.f k t1700 a1).bind fun bt1703 => ((laws_toStringS.f k l0).bind fun t1706 => ((impl_BestStone.f k t1706 a1).bind fun bt1709 => (if bt1709.1 = bt1703.1 then (if bt1709.2.1 = bt1703.2.1 then (laws_FnExactBestStone.j0 k l0 t1706 (bt1709.2.2 != bt1703.2.2)) else (laws_FnExactBestStone.j0 k l0 t1706 true)) else (laws_FnExactBestStone.j0 k l0 t1706 true))))))))) = some r := h
  clear h
  by_cases c3 : (a1.size : Int) > 1048576
  · rw [if_pos c3] at H
    have c3b0 : decide (1048576 < (a1.size : Int)) = true := decide_eq_true c3
    have c3b1 : decide (1048576 < a1.size) = true := decide_eq_true (by omega)
    clear c3
    obtain rfl := Option.some.inj H
    go_enter Tryd.func16, Tryd.ntmps16
    go_wp2
    go_ret
    exact ⟨by first | rfl | (simp [errW_none, errW_some] <;> rfl) | (simp [*, errW_none, errW_some] <;> rfl), by repeat (first | (with_reducible first | exact HB.out | apply below_alloc | apply pw_below_drewN | apply below_drew1) | exact HB.out)⟩
  · rw [if_neg c3] at H
    have c3b0 : decide (1048576 < (a1.size : Int)) = false := decide_eq_false c3
    have c3b1 : decide (1048576 < a1.size) = false := decide_eq_false (by omega)
    clear c3
    replace H := Option.bind_eq_some_iff.mp H
    obtain ⟨t1699, A40, H⟩ := H
    replace H : (if t1699 < 0 then (some true) else ((laws_toStringS.f k l0).bind fun t1700 => ((spec_BestStone.f k t1700 a1).bind fun bt1703 => ((laws_toStringS.f k l0).bind fun t1706 => ((impl_BestStone.f k t1706 a1).bind fun bt1709 => (if bt1709.1 = bt1703.1 then (if bt1709.2.1 = bt1703.2.1 then (laws_FnExactBestStone.j0 k l0 t1706 (bt1709.2.2 != bt1703.2.2)) else (laws_FnExactBestStone.j0 k l0 t1706 true)) else (laws_FnExactBestStone.j0 k l0 t1706 true))))))) = some r := H
    have A4 := Aside0.mk A40
    clear A40
    by_cases c5 : t1699 < 0
    · rw [if_pos c5] at H
      have c5b0 : decide (t1699 < 0) = true := decide_eq_true c5
      clear c5
      obtain rfl := Option.some.inj H
      go_enter Tryd.func16, Tryd.ntmps16
      go_wp2_with (first | ((with_reducible refine gate_callee (f := 39) rfl ?_); refine goesL_ (some 18) rfl rfl Tryd.func39 (by kernel_rfl) rfl #[.slice A0 l0.length c0, .int .i64 1048576] rfl (by (try simp only [List.map_toArray, List.map_cons, List.map_nil]); first | done | rfl | (simp only [List.length_drop, List.length_take]; rfl)) ?_; (with_reducible refine (laws_szStringS.calls k _ _ l0 1048576 t1699 _ ?side1 ?side2 A4.out).mono ?_); (case side1 => repeat (first | exact HR0.out | (with_reducible refine Kd.C_alloc ?_ _) | (with_reducible refine Kd.C_drewN ?_ _) | (with_reducible refine Kd.C_drew ?_))); (case side2 => exact HC0.out); rintro e w' ⟨rfl, ⟨nd, rfl⟩⟩; refine ⟨_, rfl, ?_⟩))
      go_ret
      exact ⟨by first | rfl | (simp [errW_none, errW_some] <;> rfl) | (simp [*, errW_none, errW_some] <;> rfl), by repeat (first | (with_reducible first | exact HB.out | apply below_alloc | apply pw_below_drewN | apply below_drew1) | exact HB.out)⟩
    · rw [if_neg c5] at H
      have c5b0 : decide (t1699 < 0) = false := decide_eq_false c5
      clear c5
      replace H := Option.bind_eq_some_iff.mp H
      obtain ⟨t1700, A60, H⟩ := H
      replace H : ((spec_BestStone.f k t1700 a1).bind fun bt1703 => ((laws_toStringS.f k l0).bind fun t1706 => ((impl_BestStone.f k t1706 a1).bind fun bt1709 => (if bt1709.1 = bt1703.1 then (if bt1709.2.1 = bt1703.2.1 then (laws_FnExactBestStone.j0 k l0 t1706 (bt1709.2.2 != bt1703.2.2)) else (laws_FnExactBestStone.j0 k l0 t1706 true)) else (laws_FnExactBestStone.j0 k l0 t1706 true))))) = some r := H
      have A6 := Aside0.mk A60
      clear A60
      replace H := Option.bind_eq_some_iff.mp H
      obtain ⟨⟨t1703, t1704, t1705⟩, A70, H⟩ := H
      replace H : ((laws_toStringS.f k l0).bind fun t1706 => ((impl_BestStone.f k t1706 a1).bind fun bt1709 => (if bt1709.1 = t1703 then (if bt1709.2.1 = t1704 then (laws_FnExactBestStone.j0 k l0 t1706 (bt1709.2.2 != t1705)) else (laws_FnExactBestStone.j0 k l0 t1706 true)) else (laws_FnExactBestStone.j0 k l0 t1706 true)))) = some r := H
      have A7 := Aside0.mk A70
      clear A70
      replace H := Option.bind_eq_some_iff.mp H
      obtain ⟨t1706, A80, H⟩ := H
      replace H : ((impl_BestStone.f k t1706 a1).bind fun bt1709 => (if bt1709.1 = t1703 then (if bt1709.2.1 = t1704 then (laws_FnExactBestStone.j0 k l0 t1706 (bt1709.2.2 != t1705)) else (laws_FnExactBestStone.j0 k l0 t1706 true)) else (laws_FnExactBestStone.j0 k l0 t1706 true))) = some r := H
      have A8 := Aside0.mk A80
      clear A80
      replace H := Option.bind_eq_some_iff.mp H
      obtain ⟨⟨t1709, t1710, t1711⟩, A90, H⟩ := H
      replace H : (if t1709 = t1703 then (if t1710 = t1704 then (laws_FnExactBestStone.j0 k l0 t1706 (t1711 != t1705)) else (laws_FnExactBestStone.j0 k l0 t1706 true)) else (laws_FnExactBestStone.j0 k l0 t1706 true)) = some r := H
      have A9 := Aside0.mk A90
      clear A90
      have HC10 := Aside0.mk H
      clear H
      go_enter Tryd.func16, Tryd.ntmps16
      go_upto_region 10 with (first | ((with_reducible refine gate_callee (f := 39) rfl ?_); refine goesL_ (some 18) rfl rfl Tryd.func39 (by kernel_rfl) rfl #[.slice A0 l0.length c0, .int .i64 1048576] rfl (by (try simp only [List.map_toArray, List.map_cons, List.map_nil]); first | done | rfl | (simp only [List.length_drop, List.length_take]; rfl)) ?_; (with_reducible refine (laws_szStringS.calls k _ _ l0 1048576 t1699 _ ?side1 ?side2 A4.out).mono ?_); (case side1 => repeat (first | exact HR0.out | (with_reducible refine Kd.C_alloc ?_ _) | (with_reducible refine Kd.C_drewN ?_ _) | (with_reducible refine Kd.C_drew ?_))); (case side2 => exact HC0.out); rintro e w' ⟨rfl, ⟨nd, rfl⟩⟩; refine ⟨_, rfl, ?_⟩) | ((with_reducible refine gate_callee (f := 41) rfl ?_); refine goesL_ (some 23) rfl rfl Tryd.func41 (by kernel_rfl) rfl #[.slice A0 l0.length c0] rfl (by (try simp only [List.map_toArray, List.map_cons, List.map_nil]); first | done | rfl | (simp only [List.length_drop, List.length_take]; rfl)) ?_; (with_reducible refine (laws_toStringS.calls k _ _ l0 t1700 _ ?side1 ?side2 A6.out).mono ?_); (case side1 => repeat (first | exact HR0.out | (with_reducible refine Kd.C_alloc ?_ _) | (with_reducible refine Kd.C_drewN ?_ _) | (with_reducible refine Kd.C_drew ?_))); (case side2 => exact HC0.out); rintro e w11 ⟨v1701, rfl, ho0, hb⟩; refine ⟨_, rfl, ?_⟩; have n0_ := Aside0.mk (Kd.R_lower ho0 (below_size (by repeat (first | (with_reducible first | exact HB.out | apply below_alloc | apply pw_below_drewN | apply below_drew1) | exact HB.out)))); have n1_ := Aside0.mk (below_step (by repeat (first | (with_reducible first | exact HB.out | apply below_alloc | apply pw_below_drewN | apply below_drew1) | exact HB.out)) hb); clear HB; have HO1702 := n0_; have HB := n1_; clear n0_ n1_; (try clear hb); (try clear hb2); (try clear hk); (try clear hi); (try clear ho0); obtain ⟨Ao12, co12, eo12⟩ := Kd.R_slice HO1702.out; subst eo12) | ((with_reducible refine gate_callee (f := 57) rfl ?_); refine goesL_ (some 25) rfl rfl Tryd.func57 (by kernel_rfl) rfl #[.slice Ao12 t1700.length co12, .string a1] rfl (by (try simp only [List.map_toArray, List.map_cons, List.map_nil]); first | done | rfl | (simp only [List.length_drop, List.length_take]; rfl)) ?_; (with_reducible refine (spec_BestStone.calls k _ _ t1700 a1 t1703 t1704 t1705 _ ?side1 ?side2 A7.out).mono ?_); (case side1 => repeat (first | exact (Kd.R_reads' HO1702.out).2.2 | (with_reducible refine Kd.C_alloc ?_ _) | (with_reducible refine Kd.C_drewN ?_ _) | (with_reducible refine Kd.C_drew ?_))); (case side2 => exact (Kd.R_reads' HO1702.out).2.1); rintro e w13 ⟨rfl, hb⟩; refine ⟨_, rfl, ?_⟩; have n0_ := Aside0.mk (Kd.R_below (by (with_reducible repeat (first | apply Kd.R_alloc | apply Kd.R_drewN | apply Kd.R_drew)); exact HO1702.out) hb); have n1_ := Aside0.mk (below_step (by repeat (first | (with_reducible first | exact HB.out | apply below_alloc | apply pw_below_drewN | apply below_drew1) | exact HB.out)) hb); clear HO1702; clear HB; have HO1702 := n0_; have HB := n1_; clear n0_ n1_; (try clear hb); (try clear hb2); (try clear hk); (try clear hi)) | ((with_reducible refine gate_callee (f := 41) rfl ?_); refine goesL_ (some 30) rfl rfl Tryd.func41 (by kernel_rfl) rfl #[.slice A0 l0.length c0] rfl (by (try simp only [List.map_toArray, List.map_cons, List.map_nil]); first | done | rfl | (simp only [List.length_drop, List.length_take]; rfl)) ?_; (with_reducible refine (laws_toStringS.calls k _ _ l0 t1706 _ ?side1 ?side2 A8.out).mono ?_); (case side1 => repeat (first | exact (Kd.C_below HR0.out HB.out) | (with_reducible refine Kd.C_alloc ?_ _) | (with_reducible refine Kd.C_drewN ?_ _) | (with_reducible refine Kd.C_drew ?_))); (case side2 => exact HC0.out); rintro e w14 ⟨v1707, rfl, ho0, hb⟩; refine ⟨_, rfl, ?_⟩; have n0_ := Aside0.mk (Kd.R_elder' (by (with_reducible repeat (first | apply Kd.R_alloc | apply Kd.R_drewN | apply Kd.R_drew)); exact HO1702.out) (Kd.R_base ho0) hb); have n1_ := Aside0.mk (Kd.R_lower (Kd.R_new' ho0 (Kd.R_lt (by (with_reducible repeat (first | apply Kd.R_alloc | apply Kd.R_drewN | apply Kd.R_drew)); exact HO1702.out))) (below_size (by repeat (first | (with_reducible first | exact HB.out | apply below_alloc | apply pw_below_drewN | apply below_drew1) | exact HB.out)))); have n2_ := Aside0.mk (below_step (by repeat (first | (with_reducible first | exact HB.out | apply below_alloc | apply pw_below_drewN | apply below_drew1) | exact HB.out)) hb); clear HO1702; clear HB; have HO1702 := n0_; have HO1708 := n1_; have HB := n2_; clear n0_ n1_ n2_; (try clear hb); (try clear hb2); (try clear hk); (try clear hi); (try clear ho0); obtain ⟨Ao15, co15, eo15⟩ := Kd.R_slice HO1708.out; subst eo15) | ((with_reducible refine gate_callee (f := 58) rfl ?_); refine goesL_ (some 34) rfl rfl Tryd.func58 (by kernel_rfl) rfl #[.slice Ao15 t1706.length co15, .string a1] rfl (by (try simp only [List.map_toArray, List.map_cons, List.map_nil]); first | done | rfl | (simp only [List.length_drop, List.length_take]; rfl)) ?_; (with_reducible refine (impl_BestStone.calls k _ _ t1706 a1 t1709 t1710 t1711 _ ?side1 ?side2 ?sideG A9.out).mono ?_); (case sideG => first | exact HG.out.below (by repeat (first | (with_reducible first | exact HB.out | apply below_alloc | apply pw_below_drewN | apply below_drew1) | exact HB.out)) | exact (HG.out.below (by repeat (first | (with_reducible first | exact HB.out | apply below_alloc | apply pw_below_drewN | apply below_drew1) | exact HB.out))).toM); (case side1 => repeat (first | exact (Kd.R_reads' HO1708.out).2.2 | (with_reducible refine Kd.C_alloc ?_ _) | (with_reducible refine Kd.C_drewN ?_ _) | (with_reducible refine Kd.C_drew ?_))); (case side2 => exact (Kd.R_reads' HO1708.out).2.1); rintro e w16 ⟨rfl, hb⟩; refine ⟨_, rfl, ?_⟩; have n0_ := Aside0.mk (Kd.R_below (by (with_reducible repeat (first | apply Kd.R_alloc | apply Kd.R_drewN | apply Kd.R_drew)); exact HO1702.out) hb); have n1_ := Aside0.mk (Kd.R_below (by (with_reducible repeat (first | apply Kd.R_alloc | apply Kd.R_drewN | apply Kd.R_drew)); exact HO1708.out) hb); have n2_ := Aside0.mk (below_step (by repeat (first | (with_reducible first | exact HB.out | apply below_alloc | apply pw_below_drewN | apply below_drew1) | exact HB.out)) hb); clear HO1702; clear HO1708; clear HB; have HO1702 := n0_; have HO1708 := n1_; have HB := n2_; clear n0_ n1_ n2_; (try clear hb); (try clear hb2); (try clear hk); (try clear hi)))
      (try simp only [Act.put, List.setIfInBounds_toArray, List.set_cons_zero, List.set_cons_succ])
      go_cut [50] (fun v50 wc => ∃ (kq : Nat) (x50_9 : Bool), v50 = .bool x50_9 ∧ Aside0 (laws_FnExactBestStone.j0 kq l0 t1706 x50_9 = some r) ∧ Aside0 (kq ≤ k) ∧ Aside0 (Kd.R Kd.string 9 wc w.heap.size (fun _ => True) (.slice Ao15 t1706.length co15) t1706) ∧ Aside0 (Below w.heap.size w wc))
      case first =>
        have H := HC10.out
        clear HC10
        by_cases c17 : t1709 = t1703
        · rw [if_pos c17] at H
          have c17b0 : (t1709 == t1703) = true := beq_iff_eq.mpr c17
          have c17b1 : (t1709 != t1703) = false := bne_eq_false_iff_eq.mpr c17
          clear c17
          (first | rw [c17b0] | (simp only [i64_w, i32_w]; rw [c17b0]) | skip)
          by_cases c18 : t1710 = t1704
          · rw [if_pos c18] at H
            have c18b0 : (t1710 == t1704) = true := beq_iff_eq.mpr c18
            have c18b1 : (t1710 != t1704) = false := bne_eq_false_iff_eq.mpr c18
            clear c18
            have H' := Aside0.mk H
            clear H
            go_wp2
            go_meet
            case rel => exact ⟨_, ((t1711 != t1705)), (by first | rfl | (simp; done) | (simp [*]; done)), H', ⟨by first | omega | exact Nat.le_refl _⟩, ⟨by (with_reducible repeat (first | apply Kd.R_alloc | apply Kd.R_drewN | apply Kd.R_drew)); exact Kd.R_mono HO1708.out (fun _ hk => trivial)⟩, ⟨by repeat (first | (with_reducible first | exact HB.out | apply below_alloc | apply pw_below_drewN | apply below_drew1) | exact HB.out)⟩⟩
          · rw [if_neg c18] at H
            have c18b0 : (t1710 == t1704) = false := beq_eq_false_iff_ne.mpr c18
            have c18b1 : (t1710 != t1704) = true := bne_iff_ne.mpr c18
            have H' := Aside0.mk H
            clear H
            go_wp2
            go_meet
            case rel => exact ⟨_, (true), (by first | rfl | (simp; done) | (simp [*]; done)), H', ⟨by first | omega | exact Nat.le_refl _⟩, ⟨by (with_reducible repeat (first | apply Kd.R_alloc | apply Kd.R_drewN | apply Kd.R_drew)); exact Kd.R_mono HO1708.out (fun _ hk => trivial)⟩, ⟨by repeat (first | (with_reducible first | exact HB.out | apply below_alloc | apply pw_below_drewN | apply below_drew1) | exact HB.out)⟩⟩
        · rw [if_neg c17] at H
          have c17b0 : (t1709 == t1703) = false := beq_eq_false_iff_ne.mpr c17
          have c17b1 : (t1709 != t1703) = true := bne_iff_ne.mpr c17
          (first | rw [c17b0] | (simp only [i64_w, i32_w]; rw [c17b0]) | skip)
          have H' := Aside0.mk H
          clear H
          go_wp2
          go_meet
          case rel => exact ⟨_, (true), (by first | rfl | (simp; done) | (simp [*]; done)), H', ⟨by first | omega | exact Nat.le_refl _⟩, ⟨by (with_reducible repeat (first | apply Kd.R_alloc | apply Kd.R_drewN | apply Kd.R_drew)); exact Kd.R_mono HO1708.out (fun _ hk => trivial)⟩, ⟨by repeat (first | (with_reducible first | exact HB.out | apply below_alloc | apply pw_below_drewN | apply below_drew1) | exact HB.out)⟩⟩
      case rest =>
        clear HC10
        try clear c1
        try clear p2
        try clear c3
        try clear c3b0
        try clear c3b1
        try clear c4
        try clear c5
        try clear c5b0
        try clear c16
        try clear c17
        try clear c17b0
        try clear c17b1
        try clear c18
        try clear c18b0
        try clear c18b1
        obtain ⟨kq, x50_9, rfl, HA, HJ9, HO_9, HB⟩ := hcut
        cases kq with
        | zero => exact absurd HA.out (by simp [laws_FnExactBestStone.j0])
        | succ kj9 =>
          have H := HA.out
          clear HA
          simp only [laws_FnExactBestStone.j0] at H
          by_cases c19 : x50_9 = true
          · subst c19
            have H1 : (some false) = some r := by rw [if_pos rfl] at H; exact H
            clear H
            have H := H1
            clear H1
            obtain rfl := Option.some.inj H
            go_wp2
            go_ret
            exact ⟨by first | rfl | (simp [errW_none, errW_some] <;> rfl) | (simp [*, errW_none, errW_some] <;> rfl), by repeat (first | (with_reducible first | exact HB.out | apply below_alloc | apply pw_below_drewN | apply below_drew1) | exact HB.out)⟩
          · replace c19 := Bool.eq_false_iff.mpr c19
            subst c19
            have H1 : ((laws_toStringS.f kj9 l0).bind fun t1712 => ((laws_eqStringS.f kj9 t1706 t1712).bind fun t1715 => (if t1715 = true then (some true) else (some false)))) = some r := by rw [if_neg (show ¬ (false = true) by decide)] at H; exact H
            clear H
            have H := H1
            clear H1
            replace H := Option.bind_eq_some_iff.mp H
            obtain ⟨t1712, A200, H⟩ := H
            replace H : ((laws_eqStringS.f kj9 t1706 t1712).bind fun t1715 => (if t1715 = true then (some true) else (some false))) = some r := H
            have A20 := Aside0.mk A200
            clear A200
            replace H := Option.bind_eq_some_iff.mp H
            obtain ⟨t1715, A210, H⟩ := H
            replace H : (if t1715 = true then (some true) else (some false)) = some r := H
            have A21 := Aside0.mk A210
            clear A210
            by_cases c22 : t1715 = true
            · subst c22
              have H1 : (some true) = some r := by rw [if_pos rfl] at H; exact H
              clear H
              have H := H1
              clear H1
              obtain rfl := Option.some.inj H
              go_wp2_with (first | ((with_reducible refine gate_callee (f := 41) rfl ?_); refine goesL_ (some 53) rfl rfl Tryd.func41 (by kernel_rfl) rfl #[.slice A0 l0.length c0] rfl (by (try simp only [List.map_toArray, List.map_cons, List.map_nil]); first | done | rfl | (simp only [List.length_drop, List.length_take]; rfl)) ?_; (with_reducible refine (laws_toStringS.calls kj9 _ _ l0 t1712 _ ?side1 ?side2 A20.out).mono ?_); (case side1 => repeat (first | exact (Kd.C_below HR0.out HB.out) | (with_reducible refine Kd.C_alloc ?_ _) | (with_reducible refine Kd.C_drewN ?_ _) | (with_reducible refine Kd.C_drew ?_))); (case side2 => exact HC0.out); rintro e w23 ⟨v1713, rfl, ho0, hb⟩; refine ⟨_, rfl, ?_⟩; have n0_ := Aside0.mk (Kd.R_elder' (by (with_reducible repeat (first | apply Kd.R_alloc | apply Kd.R_drewN | apply Kd.R_drew)); exact HO_9.out) (Kd.R_base ho0) hb); have n1_ := Aside0.mk (Kd.R_lower (Kd.R_new' ho0 (Kd.R_lt (by (with_reducible repeat (first | apply Kd.R_alloc | apply Kd.R_drewN | apply Kd.R_drew)); exact HO_9.out))) (below_size (by repeat (first | (with_reducible first | exact HB.out | apply below_alloc | apply pw_below_drewN | apply below_drew1) | exact HB.out)))); have n2_ := Aside0.mk (below_step (by repeat (first | (with_reducible first | exact HB.out | apply below_alloc | apply pw_below_drewN | apply below_drew1) | exact HB.out)) hb); clear HO_9; clear HB; have HO_9 := n0_; have HO1714 := n1_; have HB := n2_; clear n0_ n1_ n2_; (try clear hb); (try clear hb2); (try clear hk); (try clear hi); (try clear ho0); obtain ⟨Ao24, co24, eo24⟩ := Kd.R_slice HO1714.out; subst eo24) | ((with_reducible refine gate_callee (f := 43) rfl ?_); refine goesL_ (some 54) rfl rfl Tryd.func43 (by kernel_rfl) rfl #[.slice Ao15 t1706.length co15, .slice Ao24 t1712.length co24] rfl (by (try simp only [List.map_toArray, List.map_cons, List.map_nil]); first | done | rfl | (simp only [List.length_drop, List.length_take]; rfl)) ?_; (with_reducible refine (laws_eqStringS.calls kj9 _ _ t1706 _ _ t1712 true _ ?side1 ?side2 ?side3 ?side4 A21.out).mono ?_); (case side1 => repeat (first | exact (Kd.R_reads' HO_9.out).2.2 | (with_reducible refine Kd.C_alloc ?_ _) | (with_reducible refine Kd.C_drewN ?_ _) | (with_reducible refine Kd.C_drew ?_))); (case side2 => exact (Kd.R_reads' HO_9.out).2.1); (case side3 => repeat (first | exact (Kd.R_reads' HO1714.out).2.2 | (with_reducible refine Kd.C_alloc ?_ _) | (with_reducible refine Kd.C_drewN ?_ _) | (with_reducible refine Kd.C_drew ?_))); (case side4 => exact (Kd.R_reads' HO1714.out).2.1); rintro e w' ⟨rfl, ⟨nd, rfl⟩⟩; refine ⟨_, rfl, ?_⟩))
              go_ret
              exact ⟨by first | rfl | (simp [errW_none, errW_some] <;> rfl) | (simp [*, errW_none, errW_some] <;> rfl), by repeat (first | (with_reducible first | exact HB.out | apply below_alloc | apply pw_below_drewN | apply below_drew1) | exact HB.out)⟩
            · replace c22 := Bool.eq_false_iff.mpr c22
              subst c22
              have H1 : (some false) = some r := by rw [if_neg (show ¬ (false = true) by decide)] at H; exact H
              clear H
              have H := H1
              clear H1
              obtain rfl := Option.some.inj H
              go_wp2_with (first | ((with_reducible refine gate_callee (f := 41) rfl ?_); refine goesL_ (some 53) rfl rfl Tryd.func41 (by kernel_rfl) rfl #[.slice A0 l0.length c0] rfl (by (try simp only [List.map_toArray, List.map_cons, List.map_nil]); first | done | rfl | (simp only [List.length_drop, List.length_take]; rfl)) ?_; (with_reducible refine (laws_toStringS.calls kj9 _ _ l0 t1712 _ ?side1 ?side2 A20.out).mono ?_); (case side1 => repeat (first | exact (Kd.C_below HR0.out HB.out) | (with_reducible refine Kd.C_alloc ?_ _) | (with_reducible refine Kd.C_drewN ?_ _) | (with_reducible refine Kd.C_drew ?_))); (case side2 => exact HC0.out); rintro e w25 ⟨v1713, rfl, ho0, hb⟩; refine ⟨_, rfl, ?_⟩; have n0_ := Aside0.mk (Kd.R_elder' (by (with_reducible repeat (first | apply Kd.R_alloc | apply Kd.R_drewN | apply Kd.R_drew)); exact HO_9.out) (Kd.R_base ho0) hb); have n1_ := Aside0.mk (Kd.R_lower (Kd.R_new' ho0 (Kd.R_lt (by (with_reducible repeat (first | apply Kd.R_alloc | apply Kd.R_drewN | apply Kd.R_drew)); exact HO_9.out))) (below_size (by repeat (first | (with_reducible first | exact HB.out | apply below_alloc | apply pw_below_drewN | apply below_drew1) | exact HB.out)))); have n2_ := Aside0.mk (below_step (by repeat (first | (with_reducible first | exact HB.out | apply below_alloc | apply pw_below_drewN | apply below_drew1) | exact HB.out)) hb); clear HO_9; clear HB; have HO_9 := n0_; have HO1714 := n1_; have HB := n2_; clear n0_ n1_ n2_; (try clear hb); (try clear hb2); (try clear hk); (try clear hi); (try clear ho0); obtain ⟨Ao26, co26, eo26⟩ := Kd.R_slice HO1714.out; subst eo26) | ((with_reducible refine gate_callee (f := 43) rfl ?_); refine goesL_ (some 54) rfl rfl Tryd.func43 (by kernel_rfl) rfl #[.slice Ao15 t1706.length co15, .slice Ao26 t1712.length co26] rfl (by (try simp only [List.map_toArray, List.map_cons, List.map_nil]); first | done | rfl | (simp only [List.length_drop, List.length_take]; rfl)) ?_; (with_reducible refine (laws_eqStringS.calls kj9 _ _ t1706 _ _ t1712 false _ ?side1 ?side2 ?side3 ?side4 A21.out).mono ?_); (case side1 => repeat (first | exact (Kd.R_reads' HO_9.out).2.2 | (with_reducible refine Kd.C_alloc ?_ _) | (with_reducible refine Kd.C_drewN ?_ _) | (with_reducible refine Kd.C_drew ?_))); (case side2 => exact (Kd.R_reads' HO_9.out).2.1); (case side3 => repeat (first | exact (Kd.R_reads' HO1714.out).2.2 | (with_reducible refine Kd.C_alloc ?_ _) | (with_reducible refine Kd.C_drewN ?_ _) | (with_reducible refine Kd.C_drew ?_))); (case side4 => exact (Kd.R_reads' HO1714.out).2.1); rintro e w' ⟨rfl, ⟨nd, rfl⟩⟩; refine ⟨_, rfl, ?_⟩))
              go_ret
              exact ⟨by first | rfl | (simp [errW_none, errW_some] <;> rfl) | (simp [*, errW_none, errW_some] <;> rfl), by repeat (first | (with_reducible first | exact HB.out | apply below_alloc | apply pw_below_drewN | apply below_drew1) | exact HB.out)⟩
end Go.Proofs.YticjkfacdmmopaaDoor.Q
namespace Go.Proofs.YticjkfacdmmopaaDoor.Pure
open Go.RowKit Go.Proofs.YticjkfacdmmopaaDoor.Ext Go.Proofs.YticjkfacdmmopaaDoor.Q Go.Proofs.YticjkfacdmmopaaDoor.Txt Go.Proofs.YticjkfacdmmopaaDoorW.PrintWords Go.Proofs.YticjkfacdmmopaaDoorW.PrintLast Go.Proofs.YticjkfacdmmopaaDoorW.PrintMore
set_option linter.unusedVariables false
set_option linter.unusedSimpArgs false
set_option maxRecDepth 100000
def mkT (l : List UInt8) : ByteArray := ⟨l.toArray⟩
theorem mkT_data (l : List UInt8) : (mkT l).data.toList = l := rfl
theorem mkT_size (l : List UInt8) : (mkT l).size = l.length := by rw [← data_length]; rfl
theorem strOf_map (l : List UInt8) : strOfNums (l.map fun b => ((b.toNat : Nat) : Int)) = mkT l := by
  unfold strOfNums mkT
  rw [List.map_map]
  congr 2
  conv => rhs; rw [← List.map_id l]
  apply List.map_congr_left
  intro b _
  simp
theorem smax_eq (a b : Int) : spec_l00Max.f a b = some (mx a b) := by
  unfold spec_l00Max.f mx
  split <;> split <;> first | rfl | (congr 1; omega)
theorem bit_eq (b : Bool) : impl_bit.f b = some (if b = true then 1 else 0) := by unfold impl_bit.f; cases b <;> rfl
theorem take_letters' (t : List UInt8) (n : Nat) (h : n < t.length) : letters (t.drop n) = (if t.getD n 0 = 32 then [] else [t.getD n 0]) ++ letters (t.drop (n + 1)) := by
  have e : t.getD n 0 = t[n] := by rw [List.getD_eq_getElem?_getD, List.getElem?_eq_getElem h]; rfl
  rw [List.drop_eq_getElem_cons h, e]
  unfold letters
  by_cases hx : t[n] = 32
  · rw [if_pos hx, List.filter_cons_of_neg (by simpa using hx)]; rfl
  · rw [if_neg hx, List.filter_cons_of_pos (by simpa using hx)]; rfl
theorem sletters_l0 (s : ByteArray) (hs : s.size ≤ 1048576) : ∀ (d k i : Nat) (acc : List UInt8), i + d = s.size → d < k → acc.length ≤ i →
    spec_l04Letters.l0 k s (acc.map fun b => ((b.toNat : Nat) : Int)) i = some (mkT (acc ++ letters (s.data.toList.drop i)))
  | 0, k, i, acc, hd, hk, ha => by
    obtain ⟨k, rfl⟩ := some_k hk
    rw [spec_l04Letters.l0, if_neg (by omega), strOf_map, List.drop_eq_nil_of_le (by rw [data_length]; omega)]
    simp [letters]
  | d + 1, k, i, acc, hd, hk, ha => by
    obtain ⟨k, rfl⟩ := some_k hk
    have hlen : s.data.toList.length = s.size := data_length s
    have hin : i < s.data.toList.length := by omega
    rw [spec_l04Letters.l0, if_pos (by omega), if_pos (by omega), bt_get s i hin, wrap_succ i (by omega), take_letters' _ i hin]
    by_cases h : s.data.toList.getD i 0 = 32
    · rw [if_pos ((is32 _).2 h), sletters_l0 s hs d k (i + 1) acc (by omega) (by omega) (by omega), if_pos h]
      rfl
    · have := sletters_l0 s hs d k (i + 1) (acc ++ [s.data.toList.getD i 0]) (by omega) (by omega) (by rw [List.length_append, List.length_singleton]; omega)
      rw [List.map_append] at this
      rw [if_neg (fun hh => h ((is32 _).1 hh)), if_pos (by rw [List.length_map]; omega)]
      refine this.trans ?_
      rw [if_neg h, List.append_assoc]
theorem sletters_eq (s : ByteArray) (hs : s.size ≤ 1048576) {k : Nat} (hk : s.size < k) : spec_l04Letters.f k s = some (mkT (letters s.data.toList)) := by
  have h := sletters_l0 s hs s.size k 0 [] (by omega) hk (by simp)
  unfold spec_l04Letters.f
  exact h
theorem bt_mkT (l : List UInt8) (i : Nat) (h : i < l.length) : bt (mkT l) (i : Int) = ((l.getD i 0).toNat : Int) := by
  have := bt_get (mkT l) i (by rw [mkT_data]; exact h)
  rwa [mkT_data] at this
theorem bt_ne (x y : UInt8) : ((x.toNat : Int) = (y.toNat : Int)) ↔ x = y := by
  constructor
  · intro h
    have : x.toNat = y.toNat := by omega
    exact UInt8.toNat_inj.1 this
  · rintro rfl; rfl
section
variable (a b : List UInt8) (hb : b.length ≤ 60) (ha : a.length ≤ 60)
include hb ha
theorem scut_l1 (i : Nat) (hi : i < a.length) (kept : List Int) (h : RowOk b.length i kept) (x : UInt8) (hx : x = a.getD i 0) (R : Option Int) (k0 : Nat) (hR : ∀ k, k0 < k → spec_l04Cut.l0 k (mkT a) (mkT b) (rowL x b kept) ((i + 1 : Nat) : Int) = R) : ∀ (d k n : Nat) (next : List Int), n + d = b.length → d + k0 + 1 < k → next.length = b.length + 1 → next.take (n + 1) = (rowL x b kept).take (n + 1) →
    spec_l04Cut.l1 k (mkT a) (mkT b) kept i next n = R
  | 0, k, n, next, hd, hk, hn, ht => by
    obtain ⟨k, rfl⟩ := some_k hk
    have hrow : next = rowL x b kept := take_all (n := n + 1) ht (by omega) (by rw [rowL_len]; omega)
    rw [spec_l04Cut.l1, if_neg (by rw [mkT_size]; omega), wrap_succ i (by omega), hrow]
    exact hR k (by omega)
  | d + 1, k, n, next, hd, hk, hn, ht => by
    obtain ⟨k, rfl⟩ := some_k hk
    have hkl := h.len
    have hnr : n < b.length := by omega
    have h1 : rd next (n : Int) = nx x b kept n := by rw [take_rd ht n (by omega), rowL_rd x b kept n (by omega)]
    have hns := nx_spec h x b n hnr
    have ih := fun nx0 h1 h2 => scut_l1 i hi kept h x hx R k0 hR d k (n + 1) nx0 (by omega) (by omega) h1 h2
    have hv : (next.set (n + 1) (nx x b kept (n + 1))).take (n + 1 + 1) = (rowL x b kept).take (n + 1 + 1) := by
      rw [← rowL_rd x b kept (n + 1) (by omega)]
      exact take_put ht (by omega) (by rw [rowL_len]; omega)
    have hr := h.rng n (by omega)
    rw [spec_l04Cut.l1, if_pos (by rw [mkT_size]; omega), wrap_succ n (by omega), if_pos (by omega), if_pos (by omega), if_pos (by omega), if_pos (by omega), h1, smax_eq, Option.bind_some, if_pos (by omega), Option.bind_some, if_pos (by omega), if_pos (by rw [mkT_size]; omega), bt_mkT a i hi, bt_mkT b n hnr, ← hx, Int.toNat_natCast]
    by_cases e : x = b.getD n 0
    · rw [if_pos ((bt_ne _ _).2 e), if_pos (by omega), w64 (x := rd kept (n : Int) + 1) (by omega) (by omega), smax_eq, Option.bind_some]
      have hset : rd (next.set (n + 1) (mx (rd kept ((n + 1 : Nat) : Int)) (nx x b kept n))) ((n + 1 : Nat) : Int) = mx (rd kept ((n + 1 : Nat) : Int)) (nx x b kept n) := by
        unfold rd
        rw [Int.toNat_natCast, List.getD_eq_getElem?_getD, List.getElem?_set_self (by omega)]
        rfl
      rw [hset, List.set_set]
      rw [if_pos e] at hns
      rw [← hns]
      exact ih _ (by rw [List.length_set]; exact hn) hv
    · rw [if_neg (fun hh => e ((bt_ne _ _).1 hh))]
      rw [if_neg e] at hns
      rw [← hns]
      exact ih _ (by rw [List.length_set]; exact hn) hv
theorem scut_l0 : ∀ (d k i : Nat) (kept : List Int), i + d = a.length → 70 * d + 70 < k → RowOk b.length i kept →
    spec_l04Cut.l0 k (mkT a) (mkT b) kept i = some (b.length - rd (rowsL b (a.drop i) kept) (b.length : Int))
  | 0, k, i, kept, hd, hk, h => by
    obtain ⟨k, rfl⟩ := some_k hk
    have hkl := h.len
    have hr := h.rng b.length (by omega)
    rw [spec_l04Cut.l0, if_neg (by rw [mkT_size]; omega), mkT_size, if_pos (by omega), if_pos (by omega), List.drop_eq_nil_of_le (by omega), w64 (by omega) (by omega)]
    rfl
  | d + 1, k, i, kept, hd, hk, h => by
    obtain ⟨k, rfl⟩ := some_k hk
    have hi : i < a.length := by omega
    obtain ⟨x, hx⟩ : ∃ x, x = a.getD i 0 := ⟨_, rfl⟩
    have hdr : a.drop i = x :: a.drop (i + 1) := by rw [List.drop_eq_getElem_cons hi, hx, List.getD_eq_getElem?_getD, List.getElem?_eq_getElem hi]; rfl
    have hw : wrap64 ((b.length : Int) + 1) = ((b.length + 1 : Nat) : Int) := wrap_succ _ (by omega)
    rw [spec_l04Cut.l0, if_pos (by rw [mkT_size]; omega), mkT_size, hw, if_pos (by omega), Int.toNat_natCast, if_pos (by omega)]
    have hrec : ∀ k, 70 * d + 70 < k → spec_l04Cut.l0 k (mkT a) (mkT b) (rowL x b kept) ((i + 1 : Nat) : Int) = some (b.length - rd (rowsL b (a.drop i) kept) (b.length : Int)) := by
      intro k hk
      rw [scut_l0 d k (i + 1) (rowL x b kept) (by omega) hk (by have := row_next h (by omega) x b rfl; exact this), hdr]
      rfl
    refine scut_l1 a b hb ha i hi kept h x hx _ (70 * d + 70) hrec b.length k 0 _ (by omega) (by omega) (by simp) ?_
    unfold rowL
    rw [List.range_succ_eq_map, List.map_cons, List.replicate_succ]
    rfl
theorem icut_l1 (i : Nat) (hi : i < a.length) (kept : List Int) (h : RowOk b.length i kept) (x : UInt8) (hx : x = a.getD i 0) (R : Option Int) (k0 : Nat) (hR : ∀ k, k0 < k → impl_cutAgain.l0 k (mkT a) (mkT b) (rowL x b kept) (a.length : Int) ((i + 1 : Nat) : Int) = R) : ∀ (d k n : Nat) (next : List Int), n + d = b.length → d + k0 + 1 < k → next.length = b.length + 1 → next.take (n + 1) = (rowL x b kept).take (n + 1) →
    impl_cutAgain.l1 k (mkT a) (mkT b) kept i next (a.length : Int) i (b.length : Int) n = R
  | 0, k, n, next, hd, hk, hn, ht => by
    obtain ⟨k, rfl⟩ := some_k hk
    have hrow : next = rowL x b kept := take_all (n := n + 1) ht (by omega) (by rw [rowL_len]; omega)
    rw [impl_cutAgain.l1, if_neg (by omega), wrap_succ i (by omega), hrow]
    exact hR k (by omega)
  | d + 1, k, n, next, hd, hk, hn, ht => by
    obtain ⟨k, rfl⟩ := some_k hk
    have hkl := h.len
    have hnr : n < b.length := by omega
    have h1 : rd next (n : Int) = nx x b kept n := by rw [take_rd ht n (by omega), rowL_rd x b kept n (by omega)]
    have hr := h.rng n (by omega)
    have hbit : (0 : Int) ≤ (if x = b.getD n 0 then 1 else 0) ∧ (if x = b.getD n 0 then (1 : Int) else 0) ≤ 1 := by split <;> omega
    have hbe : (if (((a.getD i 0).toNat : Int) == ((b.getD n 0).toNat : Int)) = true then (1 : Int) else 0) = if x = b.getD n 0 then 1 else 0 := by
      rw [← hx]
      by_cases e : x = b.getD n 0
      · rw [if_pos (by rw [beq_iff_eq]; exact (bt_ne _ _).2 e), if_pos e]
      · rw [if_neg (by rw [beq_iff_eq]; exact fun hh => e ((bt_ne _ _).1 hh)), if_neg e]
    rw [impl_cutAgain.l1, if_pos (by omega), wrap_succ n (by omega), if_pos (by omega), if_pos (by omega), if_pos (by omega), if_pos (by omega), if_pos (by omega), if_pos (by omega), if_pos (by rw [mkT_size]; omega), if_pos (by rw [mkT_size]; omega), bt_mkT a i hi, bt_mkT b n hnr, bit_eq, Option.bind_some, if_pos (by omega), hbe, w64 (by omega) (by omega), h1, Int.toNat_natCast]
    refine icut_l1 i hi kept h x hx R k0 hR d k (n + 1) _ (by omega) (by omega) (by rw [List.length_set]; exact hn) ?_
    have := take_put ht (by omega) (by rw [rowL_len]; omega)
    rw [rowL_rd x b kept (n + 1) (by omega), nx] at this
    exact this
theorem icut_l0 : ∀ (d k i : Nat) (kept : List Int), i + d = a.length → 70 * d + 70 < k → RowOk b.length i kept →
    impl_cutAgain.l0 k (mkT a) (mkT b) kept (a.length : Int) i = some (b.length - rd (rowsL b (a.drop i) kept) (b.length : Int))
  | 0, k, i, kept, hd, hk, h => by
    obtain ⟨k, rfl⟩ := some_k hk
    have hkl := h.len
    have hr := h.rng b.length (by omega)
    rw [impl_cutAgain.l0, if_neg (by omega), mkT_size, if_pos (by omega), if_pos (by omega), List.drop_eq_nil_of_le (by omega), w64 (by omega) (by omega)]
    rfl
  | d + 1, k, i, kept, hd, hk, h => by
    obtain ⟨k, rfl⟩ := some_k hk
    have hi : i < a.length := by omega
    have hkl := h.len
    obtain ⟨x, hx⟩ : ∃ x, x = a.getD i 0 := ⟨_, rfl⟩
    have hdr : a.drop i = x :: a.drop (i + 1) := by rw [List.drop_eq_getElem_cons hi, hx, List.getD_eq_getElem?_getD, List.getElem?_eq_getElem hi]; rfl
    have hcl : slices_Clone_int64_int64.f kept = some kept := by unfold slices_Clone_int64_int64.f; rw [if_pos (by omega)]
    rw [impl_cutAgain.l0, if_pos (by omega), hcl, Option.bind_some, mkT_size]
    have hrec : ∀ k, 70 * d + 70 < k → impl_cutAgain.l0 k (mkT a) (mkT b) (rowL x b kept) (a.length : Int) ((i + 1 : Nat) : Int) = some (b.length - rd (rowsL b (a.drop i) kept) (b.length : Int)) := by
      intro k hk
      rw [icut_l0 d k (i + 1) (rowL x b kept) (by omega) hk (by have := row_next h (by omega) x b rfl; exact this), hdr]
      rfl
    refine icut_l1 a b hb ha i hi kept h x hx _ (70 * d + 70) hrec b.length k 0 _ (by omega) (by omega) hkl ?_
    have h0 := h.zero
    unfold rowL
    rw [List.range_succ_eq_map, List.map_cons]
    cases kept with
    | nil => simp at hkl
    | cons y ys =>
      have : y = 0 := h0
      subst this
      rfl
end
def cutT (s t : ByteArray) : Int := cutC (letters s.data.toList) (letters t.data.toList)
theorem lets60 {s : ByteArray} (h : txt s.data.toList = true) : s.size ≤ 60 ∧ (letters s.data.toList).length ≤ 60 := by
  have h1 : s.size ≤ 60 := by
    unfold txt at h
    simp only [Bool.and_eq_true, decide_eq_true_eq] at h
    have := h.1.1
    rwa [data_length] at this
  have := letters_le s.data.toList
  rw [data_length] at this
  exact ⟨h1, by omega⟩
theorem scut_eq (s t : ByteArray) (hs : txt s.data.toList = true) (ht : txt t.data.toList = true) {k : Nat} (hk : 5000 < k) : spec_l04Cut.f k s t = some (cutT s t) := by
  have h1 := lets60 hs
  have h2 := lets60 ht
  unfold spec_l04Cut.f cutT
  rw [sletters_eq s (by omega) (by omega), Option.bind_some, sletters_eq t (by omega) (by omega), Option.bind_some, mkT_size, wrap_succ _ (by omega), if_pos (by omega), Int.toNat_natCast, if_pos (by omega)]
  exact scut_l0 _ _ h2.2 h1.2 (letters s.data.toList).length k 0 _ (by omega) (by omega) (row_zero _)
theorem icut_eq (s t : ByteArray) (hs : txt s.data.toList = true) (ht : txt t.data.toList = true) {k : Nat} (hk : 5000 < k) : impl_cutAgain.f k s t = some (cutT s t) := by
  have h1 := lets60 hs
  have h2 := lets60 ht
  have e1 : impl_lettersOf.f s = some (mkT (letters s.data.toList)) := lettersOf_eq s (by omega)
  have e2 : impl_lettersOf.f t = some (mkT (letters t.data.toList)) := lettersOf_eq t (by omega)
  unfold impl_cutAgain.f cutT
  rw [e1, Option.bind_some, e2, Option.bind_some, mkT_size, mkT_size, wrap_succ _ (by omega), if_pos (by omega), Int.toNat_natCast, if_pos (by omega)]
  exact icut_l0 _ _ h2.2 h1.2 (letters s.data.toList).length k 0 _ (by omega) (by omega) (row_zero _)
theorem cutT_in {s t : ByteArray} (hs : txt s.data.toList = true) (ht : txt t.data.toList = true) : 0 ≤ cutT s t ∧ cutT s t ≤ 60 := by
  have h2 := lets60 ht
  have := cutC_in (letters s.data.toList) (letters t.data.toList)
  unfold cutT
  omega
def bestL (t : ByteArray) : List ByteArray → Nat → Int → Int → Int × Int × Int
  | [], _, best, least => (best, least, 0)
  | s :: l, i, best, least => if cutT s t < least then bestL t l (i + 1) i (cutT s t) else bestL t l (i + 1) best least
def bestOf (t : ByteArray) : List ByteArray → Int × Int × Int
  | [] => (0, 0, 6)
  | s :: l => bestL t l 1 0 (cutT s t)
def stoneC (l : List ByteArray) (t : ByteArray) : Int × Int × Int :=
  if txt t.data.toList && l.all (fun s => txt s.data.toList) then
    if 12 < l.length then (0, 0, 3) else bestOf t l
  else (0, 0, 1)
section
variable (t : ByteArray) (ht : txt t.data.toList = true) (l : List ByteArray) (hl : ∀ s ∈ l, txt s.data.toList = true) (hn : l.length ≤ 12)
include ht hl hn
theorem sbestL_l1 : ∀ (d k i : Nat) (best least : Int), i + d = l.length → d + 5001 < k → spec_BestStone.l1 k l t best least i = some (bestL t (l.drop i) i best least)
  | 0, k, i, best, least, hd, hk => by
    obtain ⟨k, rfl⟩ := some_k hk
    rw [spec_BestStone.l1, if_neg (by omega), List.drop_eq_nil_of_le (by omega)]
    rfl
  | d + 1, k, i, best, least, hd, hk => by
    obtain ⟨k, rfl⟩ := some_k hk
    have hi : i < l.length := by omega
    have ih := fun best least => sbestL_l1 d k (i + 1) best least (by omega) (by omega)
    rw [spec_BestStone.l1, if_pos (by omega), if_pos (by omega), rdOf_get l i hi, scut_eq _ t (hl _ (List.getElem_mem hi)) ht (by omega), Option.bind_some, wrap_succ i (by omega), ih, ih, List.drop_eq_getElem_cons hi, bestL]
    split <;> rfl
theorem ibestL_l0 : ∀ (d k i : Nat) (best least : Int), i + d = l.length → d + 5001 < k → 0 ≤ least → impl_BestStone.l0 k t best least l l.length i = some (bestL t (l.drop i) i best least)
  | 0, k, i, best, least, hd, hk, h0 => by
    obtain ⟨k, rfl⟩ := some_k hk
    rw [impl_BestStone.l0, if_neg (by omega), List.drop_eq_nil_of_le (by omega)]
    rfl
  | d + 1, k, i, best, least, hd, hk, h0 => by
    obtain ⟨k, rfl⟩ := some_k hk
    have hi : i < l.length := by omega
    have hc := cutT_in (hl _ (List.getElem_mem hi)) ht
    have ih := fun best least h => ibestL_l0 d k (i + 1) best least (by omega) (by omega) h
    rw [impl_BestStone.l0, if_pos (by omega), if_pos (by omega), if_pos (by omega), rdOf_get l i hi, icut_eq _ t (hl _ (List.getElem_mem hi)) ht (by omega), Option.bind_some, wrap_succ i (by omega), if_neg (by omega), ih _ _ h0, ih _ _ hc.1, List.drop_eq_getElem_cons hi, bestL]
    split <;> rfl
end
theorem stext_l0 (l : List ByteArray) (t : ByteArray) (hs : ∀ s ∈ l, s.size ≤ 1048576) (hn : l.length ≤ 1048576) (R : Option (Int × Int × Int)) (k0 : Nat) (hR : (l.all fun s => txt s.data.toList) = true → ∀ k, k0 < k → (if (l.length : Int) > 12 then (some (0, 0, 3)) else (if (l.length : Int) = 0 then (some (0, 0, 6)) else (if 0 < (l.length : Int) then ((spec_l04Cut.f k (rdOf ByteArray.empty l 0) t).bind fun t1678 => (spec_BestStone.l1 k l t 0 t1678 1)) else (none)))) = R) : ∀ (d k i : Nat), i + d = l.length → d + k0 + 1048578 < k → (l.take i).all (fun s => txt s.data.toList) = true →
    spec_BestStone.l0 k l t i = if (l.all fun s => txt s.data.toList) = true then R else some (0, 0, 1)
  | 0, k, i, hd, hk, hA => by
    obtain ⟨k, rfl⟩ := some_k hk
    rw [List.take_of_length_le (by omega)] at hA
    rw [spec_BestStone.l0, if_neg (by omega), if_pos hA]
    exact hR hA k (by omega)
  | d + 1, k, i, hd, hk, hA => by
    obtain ⟨k, rfl⟩ := some_k hk
    have hi : i < l.length := by omega
    have hz := hs _ (List.getElem_mem hi)
    rw [spec_BestStone.l0, if_pos (by omega), if_pos (by omega), rdOf_get l i hi, text_eq _ (by omega) (by omega), Option.bind_some, wrap_succ i (by omega)]
    cases h : txt l[i].data.toList
    · rw [if_neg (by simp), if_neg]
      intro hh
      have := List.all_eq_true.1 hh _ (List.getElem_mem hi)
      rw [h] at this
      cases this
    · rw [if_pos rfl]
      refine stext_l0 l t hs hn R k0 hR d k (i + 1) (by omega) (by omega) ?_
      rw [List.take_succ_eq_append_getElem hi, List.all_append, hA]
      simp [h]
theorem any_all (l : List ByteArray) : (l.any fun s => !txt s.data.toList) = !(l.all fun s => txt s.data.toList) := by
  rw [Bool.eq_iff_iff]; simp
theorem spec_BestStone_eq (l : List ByteArray) (t : ByteArray) (hs : ∀ s ∈ l, s.size ≤ 1048576) (hn : l.length ≤ 1048576) (hts : t.size ≤ 1048576) {k : Nat} (hk : 3000000 < k) : spec_BestStone.f k l t = some (stoneC l t) := by
  unfold spec_BestStone.f stoneC
  rw [text_eq t (by omega) (by omega), Option.bind_some]
  cases ht : txt t.data.toList
  · rw [if_neg (by simp), if_neg (by simp)]
  rw [if_pos rfl, Bool.true_and]
  have h := stext_l0 l t hs hn (some (if 12 < l.length then (0, 0, 3) else bestOf t l)) 10000 (by
    intro hA k hk
    by_cases h12 : 12 < l.length
    · rw [if_pos (by omega), if_pos h12]
    rw [if_neg (by omega), if_neg h12]
    cases l with
    | nil => rw [if_pos (by simp)]; rfl
    | cons s l =>
      have hal := List.all_eq_true.1 hA
      have h1 := sbestL_l1 t ht (s :: l) hal (by omega) l.length k 1 0 (cutT s t) (by simp; omega) (by simp at h12; omega)
      rw [if_neg (by simp only [List.length_cons]; omega), if_pos (by simp only [List.length_cons]; omega)]
      have e0 : rdOf ByteArray.empty (s :: l) 0 = s := rfl
      rw [e0, scut_eq s t (hal _ (by simp)) ht (by omega), Option.bind_some]
      exact h1) l.length k 0 (by omega) (by omega) (by simp)
  refine h.trans ?_
  split <;> rfl
theorem impl_BestStone_eq (l : List ByteArray) (t : ByteArray) (hs : ∀ s ∈ l, s.size ≤ 1048576) (hn : l.length ≤ 1048576) {k : Nat} (hk : 10000 < k) : impl_BestStone.f k l t = some (stoneC l t) := by
  obtain ⟨k, rfl⟩ : ∃ k', k = k' + 1 + 1 := ⟨k - 2, by omega⟩
  unfold impl_BestStone.f stoneC slices_ContainsFunc_string_string_at_impl_BestStone_1.f
  rw [valid_eq t (.inr (by omega)), Option.bind_some, Option.bind_some, any_all]
  cases ht : txt t.data.toList
  · rw [if_neg (by simp), if_neg (by simp), impl_BestStone.j0, if_pos rfl]
  rw [if_pos rfl, Bool.true_and, impl_BestStone.j0]
  cases hA : l.all fun s => txt s.data.toList
  · rw [if_pos (by rfl), if_neg (by simp)]
  rw [if_neg (by simp), if_pos rfl]
  by_cases h12 : 12 < l.length
  · rw [if_pos (by omega), if_pos h12]
  rw [if_neg (by omega), if_neg h12]
  cases l with
  | nil => rw [if_pos (by simp)]; rfl
  | cons s l =>
    have hal := List.all_eq_true.1 hA
    have hc := cutT_in (hal s (by simp)) ht
    rw [if_neg (by simp only [List.length_cons]; omega)]
    have h1 := ibestL_l0 t ht (s :: l) hal (by omega) l.length k 1 0 (cutT s t) (by simp; omega) (by simp at h12; omega) hc.1
    rw [impl_BestStone.l0, if_pos (by simp only [List.length_cons]; omega), if_pos (by omega), if_pos (by simp only [List.length_cons]; omega)]
    have e0 : rdOf ByteArray.empty (s :: l) 0 = s := rfl
    rw [e0, icut_eq s t (hal _ (by simp)) ht (by omega), Option.bind_some, if_pos (by omega), show wrap64 (0 + 1) = ((1 : Nat) : Int) by unfold wrap64; omega]
    exact h1
theorem bestStone_law (l : List ByteArray) (t : ByteArray) (hln : l.length ≤ 9223372036854775807) (hls : ∀ s ∈ l, s.size ≤ 9223372036854775807) : ∃ k, laws_FnExactBestStone.f k l t = some true := by
  obtain ⟨K, hK⟩ : ∃ K, K = 5000000 := ⟨_, rfl⟩
  refine ⟨K + 1, ?_⟩
  unfold laws_FnExactBestStone.f
  by_cases h1 : t.size > 1048576
  · rw [if_pos (by omega)]
  rw [if_neg (by omega)]
  obtain ⟨r, hr1, hr2⟩ := szS_eq l hln hls 1048576 (by omega) (by omega) (by omega : 1048576 < K + 1)
  rw [hr1, Option.bind_some]
  by_cases h4 : r < 0
  · rw [if_pos h4]
  obtain ⟨hn, hs⟩ := hr2.resolve_left h4
  rw [if_neg h4]
  simp only [Option.bind_some, toS_eq l hn (by omega : 1048576 < K + 1), toS_eq l hn (by omega : 1048576 < K), eqS_self l hn (by omega : 1048576 < K), spec_BestStone_eq l t hs hn (by omega) (by omega : 3000000 < K + 1), impl_BestStone_eq l t hs hn (by omega : 10000 < K + 1), if_true, bne_self_eq_false, laws_FnExactBestStone.j0, Bool.false_eq_true, if_false]
open Go.RowKit Go.Proofs.YticjkfacdmmopaaDoor.Ext Go.Proofs.YticjkfacdmmopaaDoor.Q Go.Proofs.YticjkfacdmmopaaDoor.Txt Go.Proofs.YticjkfacdmmopaaDoorW.PrintWords Go.Proofs.YticjkfacdmmopaaDoorW.PrintLast Go.Proofs.YticjkfacdmmopaaDoorW.PrintMore
set_option maxRecDepth 100000
theorem bestStone_walk (A : Option Addr) (c : Nat) (l : List ByteArray) (hc : l.length ≤ c) (hn : l.length ≤ 9223372036854775807) (hz : ∀ s ∈ l, s.size ≤ maxLen) (t : ByteArray) (w : World) (hr : Kd.C Kd.string w A l.length l) (hM : GlobM w) :
    Calls Tryd.prog 16 #[.slice A l.length c, .string t] w fun e w' => e = .returned (.bool true) ∧ Below w.heap.size w w' := by
  obtain ⟨k, hk⟩ := bestStone_law l t hn (fun s hs => by have := hz s hs; unfold maxLen at this; omega)
  exact laws_FnExactBestStone.calls k A c l t true w hr hc hM hk
end Go.Proofs.YticjkfacdmmopaaDoor.Pure
namespace Go.Proofs.YticjkfacdmmopaaDoor.Open
open Go.ChangeShapes Go.WideShapes Go.ChangeAt Go.RowKit Go.Deep Go.Proofs.YticjkfacdmmopaaDoor.Ext Go.Proofs.YticjkfacdmmopaaDoor.Face Go.Proofs.YticjkfacdmmopaaDoorW.PrintWords
set_option linter.unusedVariables false
set_option linter.unusedSimpArgs false
variable {H : Type} {enc : TypeId × Value → H} {P : Program} {w : World} {spare : Nat → Bool} {held : Bool} {t : TypeId}
instance : Inhabited LP := ⟨⟨0, 0, 0⟩⟩
end Go.Proofs.YticjkfacdmmopaaDoor.Open
