/- Contracts and plain laws of functions of the given program; no conditions beside those in the theorems. -/
import Derived.Test.YticjkfacdmmopaaDoorC3FillWord
import Derived.Test.YticjkfacdmmopaaDoorC4FillWord
import Derived.Test.YticjkfacdmmopaaDoorC5FillWord
import Derived.Deep.MidRow
import Derived.Test.YticjkfacdmmopaaDoorC0FillWord
import Derived.Laws.EntriesVeiled
namespace Go.Proofs.YticjkfacdmmopaaDoor.Ext
end Go.Proofs.YticjkfacdmmopaaDoor.Ext
namespace Go.Proofs.YticjkfacdmmopaaDoor.Q
open Go.Proofs.YticjkfacdmmopaaDoor.Ext
open Go.RowKit Go.Proofs.YticjkfacdmmopaaDoorW.PrintWords Go.Proofs.YticjkfacdmmopaaDoorW.PrintLast Go.Proofs.YticjkfacdmmopaaDoorW.PrintMore
attribute [local go_sem] max2_int min2_int max_two min_two max_three min_three max_four min_four
set_option linter.unusedVariables false
set_option linter.unusedSimpArgs false
def impl_gapLine_differs.f (k : Nat) (F0 F1 F2 F3 F4 F5 F6 F7 F8 F9 F10 F11 F12 F13 F14 F15 F16 F17 F18 F19 F20 F21 F22 F23 F24 F25 F26 F27 : Int) (l0_28 : List (S137)) (F29 : ByteArray) (F30 : ByteArray) (F31 : Int) (a1 : ByteArray) : Option (Int × Bool) := if F29.size + a1.size ≤ 9223372036854775807 then (if (F29 ++ a1).size + F30.size ≤ 9223372036854775807 then ((impl_ValidText.f k ((F29 ++ a1) ++ F30)).bind fun t1089 => (if t1089 = true then ((impl_Face_wide.f k F0 F1 F2 F3 F4 F5 F6 F7 F8 F9 F10 F11 F12 F13 F14 F15 F16 F17 F18 F19 F20 F21 F22 F23 F24 F25 F26 F27 l0_28 ((F29 ++ a1) ++ F30)).bind fun t1090 => (some (mx (wrap64 (t1090 - F31)) (wrap64 (-(wrap64 (t1090 - F31)))), true))) else (some (0, false)))) else (none)) else (none)
def impl_gapLine_differs.T4 : Bool × List (List Nat × List Nat) := (true, [([], []), ([0], [0]), ([], []), ([1, 2], [1, 2]), ([], []), ([4], [4]), ([3, 5], [3, 5]), ([6, 3, 0, 1, 2, 3, 4, 5, 6], [6])])
def impl_gapLine_differs.B4 : List Nat := [0, 1, 0, 7, 0, 16, 63, 127]
theorem impl_gapLine_differs.tab4 : rtab .any (opsOf Tryd.f92 4) = impl_gapLine_differs.T4 := by kernel_rfl
theorem impl_gapLine_differs.bits4 : waitsOk impl_gapLine_differs.T4.2 impl_gapLine_differs.B4 = true := by kernel_rfl
set_option maxHeartbeats 8000000 in
set_option maxRecDepth 100000 in
theorem impl_gapLine_differs.calls (k : Nat) (F0 F1 F2 F3 F4 F5 F6 F7 F8 F9 F10 F11 F12 F13 F14 F15 F16 F17 F18 F19 F20 F21 F22 F23 F24 F25 F26 F27 : Int) (A0_28 : Option Addr) (c0_28 : Nat) (l0_28 : List (S137)) (F29 : ByteArray) (F30 : ByteArray) (F31 : Int) (a1 : ByteArray) (r1 : Int) (r2 : Bool) (w : World) (hr0_28 : Kd.C k137 w A0_28 l0_28.length l0_28) (hc0_28 : l0_28.length ≤ c0_28) (hG : GlobM w) (h : impl_gapLine_differs.f k F0 F1 F2 F3 F4 F5 F6 F7 F8 F9 F10 F11 F12 F13 F14 F15 F16 F17 F18 F19 F20 F21 F22 F23 F24 F25 F26 F27 l0_28 F29 F30 F31 a1 = some (r1, r2)) :
  Calls Tryd.prog 92 #[.agg #[.int .i8 F0, .int .i8 F1, .int .i8 F2, .int .i8 F3, .int .i8 F4, .int .i8 F5, .int .i8 F6, .int .i8 F7, .int .i8 F8, .int .i8 F9, .int .i8 F10, .int .i8 F11, .int .i8 F12, .int .i8 F13, .int .i8 F14, .int .i8 F15, .int .i8 F16, .int .i8 F17, .int .i8 F18, .int .i8 F19, .int .i8 F20, .int .i8 F21, .int .i8 F22, .int .i8 F23, .int .i8 F24, .int .i8 F25, .int .i8 F26, .int .i8 F27, .slice A0_28 l0_28.length c0_28, .string F29, .string F30, .int .i64 F31], .string a1] w fun e w' => e = .returned (.tuple #[.int .i64 r1, .bool r2]) ∧ Below w.heap.size w w' := by
 have HG := Aside0.mk hG
 clear hG
 have hu108 := Tryd.underlying108
 have hu32 := Tryd.underlying32
 have HR0_28 := Aside0.mk hr0_28
 have HC0_28 := Aside0.mk hc0_28
 clear hr0_28 hc0_28
 have HB := Aside0.mk (Below.refl w.heap.size w)
 have H : (if F29.size + a1.size ≤ 9223372036854775807 then (if (F29 ++ a1).size + F30.size ≤ 9223372036854775807 then ((impl_ValidText.f k ((F29 ++ a1) ++ F30)).bind fun t1089 => (if t1089 = true then ((impl_Face_wide.f k F0 F1 F2 F3 F4 F5 F6 F7 F8 F9 F10 F11 F12 F13 F14 F15 F16 F17 F18 F19 F20 F21 F22 F23 F24 F25 F26 F27 l0_28 ((F29 ++ a1) ++ F30)).bind fun t1090 => (some (mx (wrap64 (t1090 - F31)) (wrap64 (-(wrap64 (t1090 - F31)))), true))) else (some (0, false)))) else (none)) else (none)) = some (r1, r2) := h
 clear h
 by_cases c3 : F29.size + a1.size ≤ 9223372036854775807
 ·rw [if_pos c3] at H
  have c3b0 := eq_true c3
  have c3b1 : decide (F29.size + a1.size ≤ 9223372036854775807) = true := decide_eq_true c3
  try have c3b2 : (9223372036854775807 < F29.size + a1.size) = False := eq_false (Nat.not_lt.2 c3)
  by_cases c4 : (F29 ++ a1).size + F30.size ≤ 9223372036854775807
  ·rw [if_pos c4] at H
   have c4b0 := eq_true c4
   have c4b1 : decide ((F29 ++ a1).size + F30.size ≤ 9223372036854775807) = true := decide_eq_true c4
   try have c4b2 : (9223372036854775807 < (F29 ++ a1).size + F30.size) = False := eq_false (Nat.not_lt.2 c4)
   replace H := Option.bind_eq_some_iff.mp H
   obtain ⟨t1089, A50, H⟩ := H
   (try dsimp only at H)
   have A5 := Aside0.mk A50
   clear A50
   by_cases c6 : t1089 = true
   ·subst c6
    have H1 : ((impl_Face_wide.f k F0 F1 F2 F3 F4 F5 F6 F7 F8 F9 F10 F11 F12 F13 F14 F15 F16 F17 F18 F19 F20 F21 F22 F23 F24 F25 F26 F27 l0_28 ((F29 ++ a1) ++ F30)).bind fun t1090 => (some (mx (wrap64 (t1090 - F31)) (wrap64 (-(wrap64 (t1090 - F31)))), true))) = some (r1, r2) := by rw [if_pos rfl] at H; exact H
    clear H
    have H := H1
    clear H1
    replace H := Option.bind_eq_some_iff.mp H
    obtain ⟨t1090, A70, H⟩ := H
    (try dsimp only at H)
    have A7 := Aside0.mk A70
    clear A70
    obtain ⟨ji8, hji8⟩ : ∃ j_ : Int, (mx (wrap64 (t1090 - F31)) (wrap64 (-(wrap64 (t1090 - F31))))) = j_ := ⟨_, rfl⟩
    replace H : (some (ji8, true)) = some (r1, r2) := by first | (rw [hji8] at H; exact H) | (simp only [hji8] at H ⊢; exact H)
    (try rw [hji8] at A5)
    (try rw [hji8] at A7)
    have hji8_ : (if (wrap64 (t1090 - F31)) < (wrap64 (-(wrap64 (t1090 - F31)))) then (wrap64 (-(wrap64 (t1090 - F31)))) else (wrap64 (t1090 - F31))) = ji8 := hji8
    simp only [Option.some.injEq, Prod.mk.injEq] at H
    obtain ⟨rfl, rfl⟩ := H
    go_enter Tryd.func92, Tryd.ntmps92
    try go_wp2_with (first | ((with_reducible refine gate_dst (N := 2) rfl ?_); refine box_event ?hg (N := 2) ?hd (cs := #[.int .i8 F0, .int .i8 F1, .int .i8 F2, .int .i8 F3, .int .i8 F4, .int .i8 F5, .int .i8 F6, .int .i8 F7, .int .i8 F8, .int .i8 F9, .int .i8 F10, .int .i8 F11, .int .i8 F12, .int .i8 F13, .int .i8 F14, .int .i8 F15, .int .i8 F16, .int .i8 F17, .int .i8 F18, .int .i8 F19, .int .i8 F20, .int .i8 F21, .int .i8 F22, .int .i8 F23, .int .i8 F24, .int .i8 F25, .int .i8 F26, .int .i8 F27, .slice A0_28 l0_28.length c0_28, .string F29, .string F30, .int .i64 F31]) (t := 108) ?hr ?_; (case hd => rfl); (case hg => rfl); (case hr => first | (go_simp; done) | (go_simp; rfl)); intro gb1088 hg w9 hbox hb; have n0_ := Aside0.mk (below_step (by repeat (first | (with_reducible first | exact HB.out | apply bwA | apply pwN | apply bw1) | exact HB.out)) hb); have n1_ := Aside0.mk (hbox); have n2_ := Aside0.mk ((by rw [hg]; exact (below_size (by repeat (first | (with_reducible first | exact HB.out | apply bwA | apply pwN | apply bw1) | exact HB.out))) : w.heap.size ≤ gb1088)); have n3_ := Aside0.mk ((by rw [hg]; exact (below_size (by repeat (first | (with_reducible first | exact HB.out | apply bwA | apply pwN | apply bw1) | exact HB.out))) : w.heap.size ≤ gb1088)); clear HB; have HB := n0_; have BK1088 := n1_; have GW1088 := n2_; have GE1088 := n3_; clear n0_ n1_ n2_ n3_; clear hb hbox hg; have hcz10_0 : w9.cell? ⟨gb1088, 0, none⟩ = some (.int .i8 F0) := (blk_cell BK1088.out 0).trans rfl; have hcz10_1 : w9.cell? ⟨gb1088, 1, none⟩ = some (.int .i8 F1) := (blk_cell BK1088.out 1).trans rfl; have hcz10_2 : w9.cell? ⟨gb1088, 2, none⟩ = some (.int .i8 F2) := (blk_cell BK1088.out 2).trans rfl; have hcz10_3 : w9.cell? ⟨gb1088, 3, none⟩ = some (.int .i8 F3) := (blk_cell BK1088.out 3).trans rfl; have hcz10_4 : w9.cell? ⟨gb1088, 4, none⟩ = some (.int .i8 F4) := (blk_cell BK1088.out 4).trans rfl; have hcz10_5 : w9.cell? ⟨gb1088, 5, none⟩ = some (.int .i8 F5) := (blk_cell BK1088.out 5).trans rfl; have hcz10_6 : w9.cell? ⟨gb1088, 6, none⟩ = some (.int .i8 F6) := (blk_cell BK1088.out 6).trans rfl; have hcz10_7 : w9.cell? ⟨gb1088, 7, none⟩ = some (.int .i8 F7) := (blk_cell BK1088.out 7).trans rfl; have hcz10_8 : w9.cell? ⟨gb1088, 8, none⟩ = some (.int .i8 F8) := (blk_cell BK1088.out 8).trans rfl; have hcz10_9 : w9.cell? ⟨gb1088, 9, none⟩ = some (.int .i8 F9) := (blk_cell BK1088.out 9).trans rfl; have hcz10_10 : w9.cell? ⟨gb1088, 10, none⟩ = some (.int .i8 F10) := (blk_cell BK1088.out 10).trans rfl; have hcz10_11 : w9.cell? ⟨gb1088, 11, none⟩ = some (.int .i8 F11) := (blk_cell BK1088.out 11).trans rfl; have hcz10_12 : w9.cell? ⟨gb1088, 12, none⟩ = some (.int .i8 F12) := (blk_cell BK1088.out 12).trans rfl; have hcz10_13 : w9.cell? ⟨gb1088, 13, none⟩ = some (.int .i8 F13) := (blk_cell BK1088.out 13).trans rfl; have hcz10_14 : w9.cell? ⟨gb1088, 14, none⟩ = some (.int .i8 F14) := (blk_cell BK1088.out 14).trans rfl; have hcz10_15 : w9.cell? ⟨gb1088, 15, none⟩ = some (.int .i8 F15) := (blk_cell BK1088.out 15).trans rfl; have hcz10_16 : w9.cell? ⟨gb1088, 16, none⟩ = some (.int .i8 F16) := (blk_cell BK1088.out 16).trans rfl; have hcz10_17 : w9.cell? ⟨gb1088, 17, none⟩ = some (.int .i8 F17) := (blk_cell BK1088.out 17).trans rfl; have hcz10_18 : w9.cell? ⟨gb1088, 18, none⟩ = some (.int .i8 F18) := (blk_cell BK1088.out 18).trans rfl; have hcz10_19 : w9.cell? ⟨gb1088, 19, none⟩ = some (.int .i8 F19) := (blk_cell BK1088.out 19).trans rfl; have hcz10_20 : w9.cell? ⟨gb1088, 20, none⟩ = some (.int .i8 F20) := (blk_cell BK1088.out 20).trans rfl; have hcz10_21 : w9.cell? ⟨gb1088, 21, none⟩ = some (.int .i8 F21) := (blk_cell BK1088.out 21).trans rfl; have hcz10_22 : w9.cell? ⟨gb1088, 22, none⟩ = some (.int .i8 F22) := (blk_cell BK1088.out 22).trans rfl; have hcz10_23 : w9.cell? ⟨gb1088, 23, none⟩ = some (.int .i8 F23) := (blk_cell BK1088.out 23).trans rfl; have hcz10_24 : w9.cell? ⟨gb1088, 24, none⟩ = some (.int .i8 F24) := (blk_cell BK1088.out 24).trans rfl; have hcz10_25 : w9.cell? ⟨gb1088, 25, none⟩ = some (.int .i8 F25) := (blk_cell BK1088.out 25).trans rfl; have hcz10_26 : w9.cell? ⟨gb1088, 26, none⟩ = some (.int .i8 F26) := (blk_cell BK1088.out 26).trans rfl; have hcz10_27 : w9.cell? ⟨gb1088, 27, none⟩ = some (.int .i8 F27) := (blk_cell BK1088.out 27).trans rfl; have hcz10_28 : w9.cell? ⟨gb1088, 28, none⟩ = some (.slice A0_28 l0_28.length c0_28) := (blk_cell BK1088.out 28).trans rfl; have hcz10_29 : w9.cell? ⟨gb1088, 29, none⟩ = some (.string F29) := (blk_cell BK1088.out 29).trans rfl; have hcz10_30 : w9.cell? ⟨gb1088, 30, none⟩ = some (.string F30) := (blk_cell BK1088.out 30).trans rfl; have hcz10_31 : w9.cell? ⟨gb1088, 31, none⟩ = some (.int .i64 F31) := (blk_cell BK1088.out 31).trans rfl; have hfz10_0 := blk_frozen BK1088.out 0; have hfz10_1 := blk_frozen BK1088.out 1; have hfz10_2 := blk_frozen BK1088.out 2; have hfz10_3 := blk_frozen BK1088.out 3; have hfz10_4 := blk_frozen BK1088.out 4; have hfz10_5 := blk_frozen BK1088.out 5; have hfz10_6 := blk_frozen BK1088.out 6; have hfz10_7 := blk_frozen BK1088.out 7; have hfz10_8 := blk_frozen BK1088.out 8; have hfz10_9 := blk_frozen BK1088.out 9; have hfz10_10 := blk_frozen BK1088.out 10; have hfz10_11 := blk_frozen BK1088.out 11; have hfz10_12 := blk_frozen BK1088.out 12; have hfz10_13 := blk_frozen BK1088.out 13; have hfz10_14 := blk_frozen BK1088.out 14; have hfz10_15 := blk_frozen BK1088.out 15; have hfz10_16 := blk_frozen BK1088.out 16; have hfz10_17 := blk_frozen BK1088.out 17; have hfz10_18 := blk_frozen BK1088.out 18; have hfz10_19 := blk_frozen BK1088.out 19; have hfz10_20 := blk_frozen BK1088.out 20; have hfz10_21 := blk_frozen BK1088.out 21; have hfz10_22 := blk_frozen BK1088.out 22; have hfz10_23 := blk_frozen BK1088.out 23; have hfz10_24 := blk_frozen BK1088.out 24; have hfz10_25 := blk_frozen BK1088.out 25; have hfz10_26 := blk_frozen BK1088.out 26; have hfz10_27 := blk_frozen BK1088.out 27; have hfz10_28 := blk_frozen BK1088.out 28; have hfz10_29 := blk_frozen BK1088.out 29; have hfz10_30 := blk_frozen BK1088.out 30; have hfz10_31 := blk_frozen BK1088.out 31) | ((with_reducible refine gate_callee (f := 109) rfl ?_); refine goesL_ (some 16) rfl rfl Tryd.func109 (by kernel_rfl) rfl #[.string ((F29 ++ a1) ++ F30)] rfl (by (try simp only [List.map_toArray, List.map_cons, List.map_nil]); first | done | rfl | (simp only [List.length_drop, List.length_take]; rfl)) ?_; (with_reducible refine (impl_ValidText.calls k ((F29 ++ a1) ++ F30) true _ ?sideG A5.out).mono ?_); (case sideG => first | exact HG.out.below (by repeat (first | (with_reducible first | exact HB.out | apply bwA | apply pwN | apply bw1) | exact HB.out)) | exact (HG.out.below (by repeat (first | (with_reducible first | exact HB.out | apply bwA | apply pwN | apply bw1) | exact HB.out))).toM); rintro e w11 ⟨rfl, hb⟩; refine ⟨_, rfl, ?_⟩; have n0_ := Aside0.mk (blk_below (g := gb1088) (o := .cells #[.int .i8 F0, .int .i8 F1, .int .i8 F2, .int .i8 F3, .int .i8 F4, .int .i8 F5, .int .i8 F6, .int .i8 F7, .int .i8 F8, .int .i8 F9, .int .i8 F10, .int .i8 F11, .int .i8 F12, .int .i8 F13, .int .i8 F14, .int .i8 F15, .int .i8 F16, .int .i8 F17, .int .i8 F18, .int .i8 F19, .int .i8 F20, .int .i8 F21, .int .i8 F22, .int .i8 F23, .int .i8 F24, .int .i8 F25, .int .i8 F26, .int .i8 F27, .slice A0_28 l0_28.length c0_28, .string F29, .string F30, .int .i64 F31] 108 (0, 0)) (by (with_reducible repeat (first | refine blk_drewN ?_ _ | refine blk_drew ?_ | refine blk_alloc ?_ _)); exact BK1088.out) hb); have n1_ := Aside0.mk (below_step (by repeat (first | (with_reducible first | exact HB.out | apply bwA | apply pwN | apply bw1 | refine below_set ?_ GE1088.out) | exact HB.out)) hb); clear BK1088; clear HB; have BK1088 := n0_; have HB := n1_; clear n0_ n1_; (try clear hb); (try clear hb2); (try clear hk); (try clear hi)))
    have n0_ := Aside0.mk (blk_drew BK1088.out)
    have n1_ := Aside0.mk (bw1 HB.out)
    clear BK1088
    clear HB
    have BK1088 := n0_
    have HB := n1_
    clear n0_ n1_
    refine start_ (n := 8) (S := fun w' => w'.cell? ⟨gb1088, 0, none⟩ = some (.int .i8 F0) ∧ w'.cell? ⟨gb1088, 1, none⟩ = some (.int .i8 F1) ∧ w'.cell? ⟨gb1088, 2, none⟩ = some (.int .i8 F2) ∧ w'.cell? ⟨gb1088, 3, none⟩ = some (.int .i8 F3) ∧ w'.cell? ⟨gb1088, 4, none⟩ = some (.int .i8 F4) ∧ w'.cell? ⟨gb1088, 5, none⟩ = some (.int .i8 F5) ∧ w'.cell? ⟨gb1088, 6, none⟩ = some (.int .i8 F6) ∧ w'.cell? ⟨gb1088, 7, none⟩ = some (.int .i8 F7) ∧ w'.cell? ⟨gb1088, 8, none⟩ = some (.int .i8 F8) ∧ w'.cell? ⟨gb1088, 9, none⟩ = some (.int .i8 F9) ∧ w'.cell? ⟨gb1088, 10, none⟩ = some (.int .i8 F10) ∧ w'.cell? ⟨gb1088, 11, none⟩ = some (.int .i8 F11) ∧ w'.cell? ⟨gb1088, 12, none⟩ = some (.int .i8 F12) ∧ w'.cell? ⟨gb1088, 13, none⟩ = some (.int .i8 F13) ∧ w'.cell? ⟨gb1088, 14, none⟩ = some (.int .i8 F14) ∧ w'.cell? ⟨gb1088, 15, none⟩ = some (.int .i8 F15) ∧ w'.cell? ⟨gb1088, 16, none⟩ = some (.int .i8 F16) ∧ w'.cell? ⟨gb1088, 17, none⟩ = some (.int .i8 F17) ∧ w'.cell? ⟨gb1088, 18, none⟩ = some (.int .i8 F18) ∧ w'.cell? ⟨gb1088, 19, none⟩ = some (.int .i8 F19) ∧ w'.cell? ⟨gb1088, 20, none⟩ = some (.int .i8 F20) ∧ w'.cell? ⟨gb1088, 21, none⟩ = some (.int .i8 F21) ∧ w'.cell? ⟨gb1088, 22, none⟩ = some (.int .i8 F22) ∧ w'.cell? ⟨gb1088, 23, none⟩ = some (.int .i8 F23) ∧ w'.cell? ⟨gb1088, 24, none⟩ = some (.int .i8 F24) ∧ w'.cell? ⟨gb1088, 25, none⟩ = some (.int .i8 F25) ∧ w'.cell? ⟨gb1088, 26, none⟩ = some (.int .i8 F26) ∧ w'.cell? ⟨gb1088, 27, none⟩ = some (.int .i8 F27) ∧ w'.cell? ⟨gb1088, 28, none⟩ = some (.slice A0_28 l0_28.length c0_28) ∧ w'.cell? ⟨gb1088, 29, none⟩ = some (.string F29) ∧ w'.cell? ⟨gb1088, 30, none⟩ = some (.string F30) ∧ w'.cell? ⟨gb1088, 31, none⟩ = some (.int .i64 F31) ∧ w'.heap[gb1088]? = some (.cells #[.int .i8 F0, .int .i8 F1, .int .i8 F2, .int .i8 F3, .int .i8 F4, .int .i8 F5, .int .i8 F6, .int .i8 F7, .int .i8 F8, .int .i8 F9, .int .i8 F10, .int .i8 F11, .int .i8 F12, .int .i8 F13, .int .i8 F14, .int .i8 F15, .int .i8 F16, .int .i8 F17, .int .i8 F18, .int .i8 F19, .int .i8 F20, .int .i8 F21, .int .i8 F22, .int .i8 F23, .int .i8 F24, .int .i8 F25, .int .i8 F26, .int .i8 F27, .slice A0_28 l0_28.length c0_28, .string F29, .string F30, .int .i64 F31] 108 (0, 0))) (ds := []) #[false, false, false, false, false, false, false, false] (by kernel_rfl) rfl rfl ⟨(blk_cell BK1088.out 0).trans rfl, (blk_cell BK1088.out 1).trans rfl, (blk_cell BK1088.out 2).trans rfl, (blk_cell BK1088.out 3).trans rfl, (blk_cell BK1088.out 4).trans rfl, (blk_cell BK1088.out 5).trans rfl, (blk_cell BK1088.out 6).trans rfl, (blk_cell BK1088.out 7).trans rfl, (blk_cell BK1088.out 8).trans rfl, (blk_cell BK1088.out 9).trans rfl, (blk_cell BK1088.out 10).trans rfl, (blk_cell BK1088.out 11).trans rfl, (blk_cell BK1088.out 12).trans rfl, (blk_cell BK1088.out 13).trans rfl, (blk_cell BK1088.out 14).trans rfl, (blk_cell BK1088.out 15).trans rfl, (blk_cell BK1088.out 16).trans rfl, (blk_cell BK1088.out 17).trans rfl, (blk_cell BK1088.out 18).trans rfl, (blk_cell BK1088.out 19).trans rfl, (blk_cell BK1088.out 20).trans rfl, (blk_cell BK1088.out 21).trans rfl, (blk_cell BK1088.out 22).trans rfl, (blk_cell BK1088.out 23).trans rfl, (blk_cell BK1088.out 24).trans rfl, (blk_cell BK1088.out 25).trans rfl, (blk_cell BK1088.out 26).trans rfl, (blk_cell BK1088.out 27).trans rfl, (blk_cell BK1088.out 28).trans rfl, (blk_cell BK1088.out 29).trans rfl, (blk_cell BK1088.out 30).trans rfl, (blk_cell BK1088.out 31).trans rfl, BK1088.out⟩ (fun hHeld => ?_); refine with_tabW impl_gapLine_differs.tab4 impl_gapLine_differs.bits4 (fun HT_ HW_ => ?_)
    generalize w11.drew = w12 at BK1088 HB hHeld ⊢
    refine pure_ (i := 0) (N := some 18) (v := ?_) (a' := ?_) #[true, false, false, false, false, false, false, false] rfl rfl (any_of HT_.out (by kernel_rfl)) (fun _ _ _ h => h) (Or.inl ⟨by rfl, ?_⟩) ?_ ?_
    rotate_left
    ·intro w'
     go_simp
     with_reducible rfl
    rotate_left
    ·simp only [Act.put, List.setIfInBounds_toArray, List.set_cons_zero, List.set_cons_succ, i64_w, i32_w, u8_w_]
     rfl
    refine pure_ (i := 2) (N := some 20) (v := ?_) (a' := ?_) #[true, false, true, false, false, false, false, false] rfl rfl (any_of HT_.out (by kernel_rfl)) (fun _ _ _ h => h) (Or.inl ⟨by rfl, ?_⟩) ?_ ?_
    rotate_left
    ·intro w'
     go_simp
     with_reducible rfl
    rotate_left
    ·simp only [Act.put, List.setIfInBounds_toArray, List.set_cons_zero, List.set_cons_succ, i64_w, i32_w, u8_w_]
     rfl
    refine pure_ (i := 4) (N := some 22) (v := ?_) (a' := ?_) #[true, false, true, false, true, false, false, false] rfl rfl (any_of HT_.out (by kernel_rfl)) (fun _ _ _ h => h) (Or.inl ⟨by rfl, ?_⟩) ?_ ?_
    rotate_left
    ·intro w'
     go_simp
     with_reducible rfl
    rotate_left
    ·simp only [Act.put, List.setIfInBounds_toArray, List.set_cons_zero, List.set_cons_succ, i64_w, i32_w, u8_w_]
     rfl
    refine take_ (i := 1) (N := some 19) (v := ?_) (a' := ?_) #[true, true, true, false, true, false, false, false] rfl rfl (take_ofW HT_.out HW_.out (by kernel_rfl)) (fun _ _ _ h => h) (Or.inl ⟨by rfl, ?_⟩) hHeld ?_ ?_
    rotate_left
    ·rintro w' ⟨s0, s1, s2, s3, s4, s5, s6, s7, s8, s9, s10, s11, s12, s13, s14, s15, s16, s17, s18, s19, s20, s21, s22, s23, s24, s25, s26, s27, s28, s29, s30, s31, s32⟩
     refine exec_load_partx_ 32 (.tmp 18) _ 0 [] [.int .i8 F0, .int .i8 F1, .int .i8 F2, .int .i8 F3, .int .i8 F4, .int .i8 F5, .int .i8 F6, .int .i8 F7, .int .i8 F8, .int .i8 F9, .int .i8 F10, .int .i8 F11, .int .i8 F12, .int .i8 F13, .int .i8 F14, .int .i8 F15, .int .i8 F16, .int .i8 F17, .int .i8 F18, .int .i8 F19, .int .i8 F20, .int .i8 F21, .int .i8 F22, .int .i8 F23, .int .i8 F24, .int .i8 F25, .int .i8 F26, .int .i8 F27, .slice A0_28 l0_28.length c0_28] [.string F29, .string F30, .int .i64 F31] rfl s32 ?_ ?_ Tryd.underlying32 rfl (by exact (show (Tryd.prog.info? 32).map (·.size) = some 29 by kernel_rfl))
     ·rfl
     ·rfl
    rotate_left
    ·simp only [Act.put, List.setIfInBounds_toArray, List.set_cons_zero, List.set_cons_succ, i64_w, i32_w, u8_w_]
     rfl
    refine take_ (i := 5) (N := some 23) (v := ?_) (a' := ?_) #[true, true, true, false, true, true, false, false] rfl rfl (take_ofW HT_.out HW_.out (by kernel_rfl)) (fun _ _ _ h => h) (Or.inl ⟨by rfl, ?_⟩) hHeld ?_ ?_
    rotate_left
    ·rintro w' ⟨s0, s1, s2, s3, s4, s5, s6, s7, s8, s9, s10, s11, s12, s13, s14, s15, s16, s17, s18, s19, s20, s21, s22, s23, s24, s25, s26, s27, s28, s29, s30, s31, s32⟩
     go_simp
     with_reducible rfl
    rotate_left
    ·simp only [Act.put, List.setIfInBounds_toArray, List.set_cons_zero, List.set_cons_succ, i64_w, i32_w, u8_w_]
     rfl
    refine one_ (i := 3) (N := some 21) #[true, true, true, true, true, true, false, false] rfl rfl (one_of HT_.out (by kernel_rfl)) (by decide) (fun K hK => ?_)
    refine goes_ Tryd.func70 (by kernel_rfl) rfl #[.agg #[.int .i8 F0, .int .i8 F1, .int .i8 F2, .int .i8 F3, .int .i8 F4, .int .i8 F5, .int .i8 F6, .int .i8 F7, .int .i8 F8, .int .i8 F9, .int .i8 F10, .int .i8 F11, .int .i8 F12, .int .i8 F13, .int .i8 F14, .int .i8 F15, .int .i8 F16, .int .i8 F17, .int .i8 F18, .int .i8 F19, .int .i8 F20, .int .i8 F21, .int .i8 F22, .int .i8 F23, .int .i8 F24, .int .i8 F25, .int .i8 F26, .int .i8 F27, .slice A0_28 l0_28.length c0_28], .string ((F29 ++ a1) ++ F30)] (by rfl) rfl rfl (by (try simp only [List.map_toArray, List.map_cons, List.map_nil]); first | done | rfl | (simp only [List.length_drop, List.length_take]; rfl)) ?_
    with_reducible refine (impl_Face_wide.calls k F0 F1 F2 F3 F4 F5 F6 F7 F8 F9 F10 F11 F12 F13 F14 F15 F16 F17 F18 F19 F20 F21 F22 F23 F24 F25 F26 F27 _ _ l0_28 ((F29 ++ a1) ++ F30) t1090 _ ?side1 ?side2 A7.out).mono ?_
    (case side1 => repeat (first | exact (Kd.C_below HR0_28.out HB.out) | (with_reducible refine Kd.C_alloc ?_ _) | (with_reducible refine Kd.C_drewN ?_ _) | (with_reducible refine Kd.C_drew ?_)))
    (case side2 => exact HC0_28.out)
    rintro e w13 ⟨rfl, hb⟩
    refine ⟨_, rfl, ?_⟩
    have n0_ := Aside0.mk (blk_below (g := gb1088) (o := .cells #[.int .i8 F0, .int .i8 F1, .int .i8 F2, .int .i8 F3, .int .i8 F4, .int .i8 F5, .int .i8 F6, .int .i8 F7, .int .i8 F8, .int .i8 F9, .int .i8 F10, .int .i8 F11, .int .i8 F12, .int .i8 F13, .int .i8 F14, .int .i8 F15, .int .i8 F16, .int .i8 F17, .int .i8 F18, .int .i8 F19, .int .i8 F20, .int .i8 F21, .int .i8 F22, .int .i8 F23, .int .i8 F24, .int .i8 F25, .int .i8 F26, .int .i8 F27, .slice A0_28 l0_28.length c0_28, .string F29, .string F30, .int .i64 F31] 108 (0, 0)) (by (with_reducible repeat (first | refine blk_drewN ?_ _ | refine blk_drew ?_ | refine blk_alloc ?_ _)); exact BK1088.out) hb)
    have n1_ := Aside0.mk (below_step (by repeat (first | (with_reducible first | exact HB.out | apply bwA | apply pwN | apply bw1 | refine below_set ?_ GE1088.out) | exact HB.out)) hb)
    clear BK1088
    clear HB
    have BK1088 := n0_
    have HB := n1_
    clear n0_ n1_
    (try clear hb)
    (try clear hb2)
    (try clear hk)
    (try clear hi)
    refine hK.out _ _ ⟨(blk_cell BK1088.out 0).trans rfl, (blk_cell BK1088.out 1).trans rfl, (blk_cell BK1088.out 2).trans rfl, (blk_cell BK1088.out 3).trans rfl, (blk_cell BK1088.out 4).trans rfl, (blk_cell BK1088.out 5).trans rfl, (blk_cell BK1088.out 6).trans rfl, (blk_cell BK1088.out 7).trans rfl, (blk_cell BK1088.out 8).trans rfl, (blk_cell BK1088.out 9).trans rfl, (blk_cell BK1088.out 10).trans rfl, (blk_cell BK1088.out 11).trans rfl, (blk_cell BK1088.out 12).trans rfl, (blk_cell BK1088.out 13).trans rfl, (blk_cell BK1088.out 14).trans rfl, (blk_cell BK1088.out 15).trans rfl, (blk_cell BK1088.out 16).trans rfl, (blk_cell BK1088.out 17).trans rfl, (blk_cell BK1088.out 18).trans rfl, (blk_cell BK1088.out 19).trans rfl, (blk_cell BK1088.out 20).trans rfl, (blk_cell BK1088.out 21).trans rfl, (blk_cell BK1088.out 22).trans rfl, (blk_cell BK1088.out 23).trans rfl, (blk_cell BK1088.out 24).trans rfl, (blk_cell BK1088.out 25).trans rfl, (blk_cell BK1088.out 26).trans rfl, (blk_cell BK1088.out 27).trans rfl, (blk_cell BK1088.out 28).trans rfl, (blk_cell BK1088.out 29).trans rfl, (blk_cell BK1088.out 30).trans rfl, (blk_cell BK1088.out 31).trans rfl, BK1088.out⟩ (fun hHeld => ?_)
    clear hK K
    refine norm_ (a' := ?_) ?_ ?_
    rotate_left
    ·show Act.put _ (some 21) _ = _
     simp only [Act.put, List.setIfInBounds_toArray, List.set_cons_zero, List.set_cons_succ, i64_w, i32_w, u8_w_]
     rfl
    refine pure_ (i := 6) (N := some 24) (v := ?_) (a' := ?_) #[true, true, true, true, true, true, true, false] rfl rfl (any_of HT_.out (by kernel_rfl)) (fun _ _ _ h => h) (Or.inl ⟨by rfl, ?_⟩) ?_ ?_
    rotate_left
    ·intro w'
     go_simp
     with_reducible rfl
    rotate_left
    ·simp only [Act.put, List.setIfInBounds_toArray, List.set_cons_zero, List.set_cons_succ, i64_w, i32_w, u8_w_]
     rfl
    refine pure_ (i := 7) (N := some 7) (v := ?_) (a' := ?_) #[true, true, true, true, true, true, true, true] rfl rfl (any_of HT_.out (by kernel_rfl)) (fun _ _ _ h => h) (Or.inl ⟨by rfl, ?_⟩) ?_ ?_
    rotate_left
    ·intro w'
     go_simp
     with_reducible rfl
    rotate_left
    ·simp only [Act.put, List.setIfInBounds_toArray, List.set_cons_zero, List.set_cons_succ, i64_w, i32_w, u8_w_]
     rfl
    refine done_ (done_of HT_.out (by kernel_rfl)) ?_
    try go_wp2
    go_ret2
    exact ⟨by first | rfl | (simp [errW_none, errW_some] <;> rfl) | (simp only [← hji8]; first | rfl | (simp [errW_none, errW_some] <;> rfl)) | (simp [*, errW_none, errW_some] <;> rfl), by repeat (first | (with_reducible first | exact HB.out | apply bwA | apply pwN | apply bw1 | refine below_set ?_ GE1088.out) | exact HB.out)⟩
   ·replace c6 := Bool.eq_false_iff.mpr c6
    subst c6
    have H1 : (some (0, false)) = some (r1, r2) := by rw [if_neg (show ¬ (false = true) by decide)] at H; exact H
    clear H
    have H := H1
    clear H1
    simp only [Option.some.injEq, Prod.mk.injEq] at H
    obtain ⟨rfl, rfl⟩ := H
    go_enter Tryd.func92, Tryd.ntmps92
    go_wp2_with (first | ((with_reducible refine gate_dst (N := 2) rfl ?_); refine box_event ?hg (N := 2) ?hd (cs := #[.int .i8 F0, .int .i8 F1, .int .i8 F2, .int .i8 F3, .int .i8 F4, .int .i8 F5, .int .i8 F6, .int .i8 F7, .int .i8 F8, .int .i8 F9, .int .i8 F10, .int .i8 F11, .int .i8 F12, .int .i8 F13, .int .i8 F14, .int .i8 F15, .int .i8 F16, .int .i8 F17, .int .i8 F18, .int .i8 F19, .int .i8 F20, .int .i8 F21, .int .i8 F22, .int .i8 F23, .int .i8 F24, .int .i8 F25, .int .i8 F26, .int .i8 F27, .slice A0_28 l0_28.length c0_28, .string F29, .string F30, .int .i64 F31]) (t := 108) ?hr ?_; (case hd => rfl); (case hg => rfl); (case hr => first | (go_simp; done) | (go_simp; rfl)); intro gb1088 hg w14 hbox hb; have n0_ := Aside0.mk (below_step (by repeat (first | (with_reducible first | exact HB.out | apply bwA | apply pwN | apply bw1) | exact HB.out)) hb); have n1_ := Aside0.mk (hbox); have n2_ := Aside0.mk ((by rw [hg]; exact (below_size (by repeat (first | (with_reducible first | exact HB.out | apply bwA | apply pwN | apply bw1) | exact HB.out))) : w.heap.size ≤ gb1088)); have n3_ := Aside0.mk ((by rw [hg]; exact (below_size (by repeat (first | (with_reducible first | exact HB.out | apply bwA | apply pwN | apply bw1) | exact HB.out))) : w.heap.size ≤ gb1088)); clear HB; have HB := n0_; have BK1088 := n1_; have GW1088 := n2_; have GE1088 := n3_; clear n0_ n1_ n2_ n3_; clear hb hbox hg; have hcz15_0 : w14.cell? ⟨gb1088, 0, none⟩ = some (.int .i8 F0) := (blk_cell BK1088.out 0).trans rfl; have hcz15_1 : w14.cell? ⟨gb1088, 1, none⟩ = some (.int .i8 F1) := (blk_cell BK1088.out 1).trans rfl; have hcz15_2 : w14.cell? ⟨gb1088, 2, none⟩ = some (.int .i8 F2) := (blk_cell BK1088.out 2).trans rfl; have hcz15_3 : w14.cell? ⟨gb1088, 3, none⟩ = some (.int .i8 F3) := (blk_cell BK1088.out 3).trans rfl; have hcz15_4 : w14.cell? ⟨gb1088, 4, none⟩ = some (.int .i8 F4) := (blk_cell BK1088.out 4).trans rfl; have hcz15_5 : w14.cell? ⟨gb1088, 5, none⟩ = some (.int .i8 F5) := (blk_cell BK1088.out 5).trans rfl; have hcz15_6 : w14.cell? ⟨gb1088, 6, none⟩ = some (.int .i8 F6) := (blk_cell BK1088.out 6).trans rfl; have hcz15_7 : w14.cell? ⟨gb1088, 7, none⟩ = some (.int .i8 F7) := (blk_cell BK1088.out 7).trans rfl; have hcz15_8 : w14.cell? ⟨gb1088, 8, none⟩ = some (.int .i8 F8) := (blk_cell BK1088.out 8).trans rfl; have hcz15_9 : w14.cell? ⟨gb1088, 9, none⟩ = some (.int .i8 F9) := (blk_cell BK1088.out 9).trans rfl; have hcz15_10 : w14.cell? ⟨gb1088, 10, none⟩ = some (.int .i8 F10) := (blk_cell BK1088.out 10).trans rfl; have hcz15_11 : w14.cell? ⟨gb1088, 11, none⟩ = some (.int .i8 F11) := (blk_cell BK1088.out 11).trans rfl; have hcz15_12 : w14.cell? ⟨gb1088, 12, none⟩ = some (.int .i8 F12) := (blk_cell BK1088.out 12).trans rfl; have hcz15_13 : w14.cell? ⟨gb1088, 13, none⟩ = some (.int .i8 F13) := (blk_cell BK1088.out 13).trans rfl; have hcz15_14 : w14.cell? ⟨gb1088, 14, none⟩ = some (.int .i8 F14) := (blk_cell BK1088.out 14).trans rfl; have hcz15_15 : w14.cell? ⟨gb1088, 15, none⟩ = some (.int .i8 F15) := (blk_cell BK1088.out 15).trans rfl; have hcz15_16 : w14.cell? ⟨gb1088, 16, none⟩ = some (.int .i8 F16) := (blk_cell BK1088.out 16).trans rfl; have hcz15_17 : w14.cell? ⟨gb1088, 17, none⟩ = some (.int .i8 F17) := (blk_cell BK1088.out 17).trans rfl; have hcz15_18 : w14.cell? ⟨gb1088, 18, none⟩ = some (.int .i8 F18) := (blk_cell BK1088.out 18).trans rfl; have hcz15_19 : w14.cell? ⟨gb1088, 19, none⟩ = some (.int .i8 F19) := (blk_cell BK1088.out 19).trans rfl; have hcz15_20 : w14.cell? ⟨gb1088, 20, none⟩ = some (.int .i8 F20) := (blk_cell BK1088.out 20).trans rfl; have hcz15_21 : w14.cell? ⟨gb1088, 21, none⟩ = some (.int .i8 F21) := (blk_cell BK1088.out 21).trans rfl; have hcz15_22 : w14.cell? ⟨gb1088, 22, none⟩ = some (.int .i8 F22) := (blk_cell BK1088.out 22).trans rfl; have hcz15_23 : w14.cell? ⟨gb1088, 23, none⟩ = some (.int .i8 F23) := (blk_cell BK1088.out 23).trans rfl; have hcz15_24 : w14.cell? ⟨gb1088, 24, none⟩ = some (.int .i8 F24) := (blk_cell BK1088.out 24).trans rfl; have hcz15_25 : w14.cell? ⟨gb1088, 25, none⟩ = some (.int .i8 F25) := (blk_cell BK1088.out 25).trans rfl; have hcz15_26 : w14.cell? ⟨gb1088, 26, none⟩ = some (.int .i8 F26) := (blk_cell BK1088.out 26).trans rfl; have hcz15_27 : w14.cell? ⟨gb1088, 27, none⟩ = some (.int .i8 F27) := (blk_cell BK1088.out 27).trans rfl; have hcz15_28 : w14.cell? ⟨gb1088, 28, none⟩ = some (.slice A0_28 l0_28.length c0_28) := (blk_cell BK1088.out 28).trans rfl; have hcz15_29 : w14.cell? ⟨gb1088, 29, none⟩ = some (.string F29) := (blk_cell BK1088.out 29).trans rfl; have hcz15_30 : w14.cell? ⟨gb1088, 30, none⟩ = some (.string F30) := (blk_cell BK1088.out 30).trans rfl; have hcz15_31 : w14.cell? ⟨gb1088, 31, none⟩ = some (.int .i64 F31) := (blk_cell BK1088.out 31).trans rfl; have hfz15_0 := blk_frozen BK1088.out 0; have hfz15_1 := blk_frozen BK1088.out 1; have hfz15_2 := blk_frozen BK1088.out 2; have hfz15_3 := blk_frozen BK1088.out 3; have hfz15_4 := blk_frozen BK1088.out 4; have hfz15_5 := blk_frozen BK1088.out 5; have hfz15_6 := blk_frozen BK1088.out 6; have hfz15_7 := blk_frozen BK1088.out 7; have hfz15_8 := blk_frozen BK1088.out 8; have hfz15_9 := blk_frozen BK1088.out 9; have hfz15_10 := blk_frozen BK1088.out 10; have hfz15_11 := blk_frozen BK1088.out 11; have hfz15_12 := blk_frozen BK1088.out 12; have hfz15_13 := blk_frozen BK1088.out 13; have hfz15_14 := blk_frozen BK1088.out 14; have hfz15_15 := blk_frozen BK1088.out 15; have hfz15_16 := blk_frozen BK1088.out 16; have hfz15_17 := blk_frozen BK1088.out 17; have hfz15_18 := blk_frozen BK1088.out 18; have hfz15_19 := blk_frozen BK1088.out 19; have hfz15_20 := blk_frozen BK1088.out 20; have hfz15_21 := blk_frozen BK1088.out 21; have hfz15_22 := blk_frozen BK1088.out 22; have hfz15_23 := blk_frozen BK1088.out 23; have hfz15_24 := blk_frozen BK1088.out 24; have hfz15_25 := blk_frozen BK1088.out 25; have hfz15_26 := blk_frozen BK1088.out 26; have hfz15_27 := blk_frozen BK1088.out 27; have hfz15_28 := blk_frozen BK1088.out 28; have hfz15_29 := blk_frozen BK1088.out 29; have hfz15_30 := blk_frozen BK1088.out 30; have hfz15_31 := blk_frozen BK1088.out 31) | ((with_reducible refine gate_callee (f := 109) rfl ?_); refine goesL_ (some 16) rfl rfl Tryd.func109 (by kernel_rfl) rfl #[.string ((F29 ++ a1) ++ F30)] rfl (by (try simp only [List.map_toArray, List.map_cons, List.map_nil]); first | done | rfl | (simp only [List.length_drop, List.length_take]; rfl)) ?_; (with_reducible refine (impl_ValidText.calls k ((F29 ++ a1) ++ F30) false _ ?sideG A5.out).mono ?_); (case sideG => first | exact HG.out.below (by repeat (first | (with_reducible first | exact HB.out | apply bwA | apply pwN | apply bw1) | exact HB.out)) | exact (HG.out.below (by repeat (first | (with_reducible first | exact HB.out | apply bwA | apply pwN | apply bw1) | exact HB.out))).toM); rintro e w16 ⟨rfl, hb⟩; refine ⟨_, rfl, ?_⟩; have n0_ := Aside0.mk (blk_below (g := gb1088) (o := .cells #[.int .i8 F0, .int .i8 F1, .int .i8 F2, .int .i8 F3, .int .i8 F4, .int .i8 F5, .int .i8 F6, .int .i8 F7, .int .i8 F8, .int .i8 F9, .int .i8 F10, .int .i8 F11, .int .i8 F12, .int .i8 F13, .int .i8 F14, .int .i8 F15, .int .i8 F16, .int .i8 F17, .int .i8 F18, .int .i8 F19, .int .i8 F20, .int .i8 F21, .int .i8 F22, .int .i8 F23, .int .i8 F24, .int .i8 F25, .int .i8 F26, .int .i8 F27, .slice A0_28 l0_28.length c0_28, .string F29, .string F30, .int .i64 F31] 108 (0, 0)) (by (with_reducible repeat (first | refine blk_drewN ?_ _ | refine blk_drew ?_ | refine blk_alloc ?_ _)); exact BK1088.out) hb); have n1_ := Aside0.mk (below_step (by repeat (first | (with_reducible first | exact HB.out | apply bwA | apply pwN | apply bw1 | refine below_set ?_ GE1088.out) | exact HB.out)) hb); clear BK1088; clear HB; have BK1088 := n0_; have HB := n1_; clear n0_ n1_; (try clear hb); (try clear hb2); (try clear hk); (try clear hi)))
    go_ret2
    exact ⟨by first | rfl | (simp [errW_none, errW_some] <;> rfl) | (simp [*, errW_none, errW_some] <;> rfl), by repeat (first | (with_reducible first | exact HB.out | apply bwA | apply pwN | apply bw1 | refine below_set ?_ GE1088.out) | exact HB.out)⟩
  ·rw [if_neg c4] at H
   exact absurd H (by simp)
 ·rw [if_neg c3] at H
  exact absurd H (by simp)
def impl_gapLine_fits.f (k : Nat) (F0 F1 F2 F3 F4 F5 F6 F7 F8 F9 F10 F11 F12 F13 F14 F15 F16 F17 F18 F19 F20 F21 F22 F23 F24 F25 F26 F27 : Int) (l0_28 : List (S137)) (F29 : ByteArray) (F30 : ByteArray) (F31 : Int) (a1 : ByteArray) (a2 : Int) : Option (Bool) := (impl_gapLine_differs.f k F0 F1 F2 F3 F4 F5 F6 F7 F8 F9 F10 F11 F12 F13 F14 F15 F16 F17 F18 F19 F20 F21 F22 F23 F24 F25 F26 F27 l0_28 F29 F30 F31 a1).bind fun bt1092 => (if bt1092.2 = true then (some (decide (bt1092.1 ≤ a2))) else (some false))
set_option maxHeartbeats 8000000 in
set_option maxRecDepth 100000 in
theorem impl_gapLine_fits.calls (k : Nat) (F0 F1 F2 F3 F4 F5 F6 F7 F8 F9 F10 F11 F12 F13 F14 F15 F16 F17 F18 F19 F20 F21 F22 F23 F24 F25 F26 F27 : Int) (A0_28 : Option Addr) (c0_28 : Nat) (l0_28 : List (S137)) (F29 : ByteArray) (F30 : ByteArray) (F31 : Int) (a1 : ByteArray) (a2 : Int) (r : Bool) (w : World) (hr0_28 : Kd.C k137 w A0_28 l0_28.length l0_28) (hc0_28 : l0_28.length ≤ c0_28) (hG : GlobM w) (h : impl_gapLine_fits.f k F0 F1 F2 F3 F4 F5 F6 F7 F8 F9 F10 F11 F12 F13 F14 F15 F16 F17 F18 F19 F20 F21 F22 F23 F24 F25 F26 F27 l0_28 F29 F30 F31 a1 a2 = some r) :
  Calls Tryd.prog 91 #[.agg #[.int .i8 F0, .int .i8 F1, .int .i8 F2, .int .i8 F3, .int .i8 F4, .int .i8 F5, .int .i8 F6, .int .i8 F7, .int .i8 F8, .int .i8 F9, .int .i8 F10, .int .i8 F11, .int .i8 F12, .int .i8 F13, .int .i8 F14, .int .i8 F15, .int .i8 F16, .int .i8 F17, .int .i8 F18, .int .i8 F19, .int .i8 F20, .int .i8 F21, .int .i8 F22, .int .i8 F23, .int .i8 F24, .int .i8 F25, .int .i8 F26, .int .i8 F27, .slice A0_28 l0_28.length c0_28, .string F29, .string F30, .int .i64 F31], .string a1, .int .i64 a2] w fun e w' => e = .returned (.bool r) ∧ Below w.heap.size w w' := by
 have HG := Aside0.mk hG
 clear hG
 have hu108 := Tryd.underlying108
 have HR0_28 := Aside0.mk hr0_28
 have HC0_28 := Aside0.mk hc0_28
 clear hr0_28 hc0_28
 have HB := Aside0.mk (Below.refl w.heap.size w)
 have H : ((impl_gapLine_differs.f k F0 F1 F2 F3 F4 F5 F6 F7 F8 F9 F10 F11 F12 F13 F14 F15 F16 F17 F18 F19 F20 F21 F22 F23 F24 F25 F26 F27 l0_28 F29 F30 F31 a1).bind fun bt1092 => (if bt1092.2 = true then (some (decide (bt1092.1 ≤ a2))) else (some false))) = some r := h
 clear h
 replace H := Option.bind_eq_some_iff.mp H
 obtain ⟨⟨t1092, t1093⟩, A40, H⟩ := H
 (try dsimp only at H)
 have A4 := Aside0.mk A40
 clear A40
 by_cases c5 : t1093 = true
 ·subst c5
  rw [if_pos rfl] at H
  have H1 := H
  clear H
  have H := H1
  clear H1
  obtain rfl := Option.some.inj H
  go_enter Tryd.func91, Tryd.ntmps91
  go_wp2_with (first | ((with_reducible refine gate_dst (N := 3) rfl ?_); refine box_event ?hg (N := 3) ?hd (cs := #[.int .i8 F0, .int .i8 F1, .int .i8 F2, .int .i8 F3, .int .i8 F4, .int .i8 F5, .int .i8 F6, .int .i8 F7, .int .i8 F8, .int .i8 F9, .int .i8 F10, .int .i8 F11, .int .i8 F12, .int .i8 F13, .int .i8 F14, .int .i8 F15, .int .i8 F16, .int .i8 F17, .int .i8 F18, .int .i8 F19, .int .i8 F20, .int .i8 F21, .int .i8 F22, .int .i8 F23, .int .i8 F24, .int .i8 F25, .int .i8 F26, .int .i8 F27, .slice A0_28 l0_28.length c0_28, .string F29, .string F30, .int .i64 F31]) (t := 108) ?hr ?_; (case hd => rfl); (case hg => rfl); (case hr => first | (go_simp; done) | (go_simp; rfl)); intro gb1091 hg w6 hbox hb; have n0_ := Aside0.mk (below_step (by repeat (first | (with_reducible first | exact HB.out | apply bwA | apply pwN | apply bw1) | exact HB.out)) hb); have n1_ := Aside0.mk (hbox); have n2_ := Aside0.mk ((by rw [hg]; exact (below_size (by repeat (first | (with_reducible first | exact HB.out | apply bwA | apply pwN | apply bw1) | exact HB.out))) : w.heap.size ≤ gb1091)); have n3_ := Aside0.mk ((by rw [hg]; exact (below_size (by repeat (first | (with_reducible first | exact HB.out | apply bwA | apply pwN | apply bw1) | exact HB.out))) : w.heap.size ≤ gb1091)); clear HB; have HB := n0_; have BK1091 := n1_; have GW1091 := n2_; have GE1091 := n3_; clear n0_ n1_ n2_ n3_; clear hb hbox hg) | ((with_reducible refine gate_dst (N := 10) rfl ?_); refine wpList_load_mid rfl 108 (.tmp 3) rfl gb1091 0 rfl [.int .i8 F0, .int .i8 F1, .int .i8 F2, .int .i8 F3, .int .i8 F4, .int .i8 F5, .int .i8 F6, .int .i8 F7, .int .i8 F8, .int .i8 F9, .int .i8 F10, .int .i8 F11, .int .i8 F12, .int .i8 F13, .int .i8 F14, .int .i8 F15, .int .i8 F16, .int .i8 F17, .int .i8 F18, .int .i8 F19, .int .i8 F20, .int .i8 F21, .int .i8 F22, .int .i8 F23, .int .i8 F24, .int .i8 F25, .int .i8 F26, .int .i8 F27, .slice A0_28 l0_28.length c0_28, .string F29, .string F30, .int .i64 F31] _ (range_partx_ [] [.int .i8 F0, .int .i8 F1, .int .i8 F2, .int .i8 F3, .int .i8 F4, .int .i8 F5, .int .i8 F6, .int .i8 F7, .int .i8 F8, .int .i8 F9, .int .i8 F10, .int .i8 F11, .int .i8 F12, .int .i8 F13, .int .i8 F14, .int .i8 F15, .int .i8 F16, .int .i8 F17, .int .i8 F18, .int .i8 F19, .int .i8 F20, .int .i8 F21, .int .i8 F22, .int .i8 F23, .int .i8 F24, .int .i8 F25, .int .i8 F26, .int .i8 F27, .slice A0_28 l0_28.length c0_28, .string F29, .string F30, .int .i64 F31] [] 0 rfl (by (with_reducible repeat (first | refine blk_drewN ?_ _ | refine blk_drew ?_ | refine blk_alloc ?_ _)); exact BK1091.out)) Tryd.underlying108 rfl (by exact (show (Tryd.prog.info? 108).map (·.size) = some 32 by kernel_rfl)) ?_) | ((with_reducible refine gate_callee (f := 92) rfl ?_); refine goesL_ (some 12) rfl rfl Tryd.func92 (by kernel_rfl) rfl #[.agg #[.int .i8 F0, .int .i8 F1, .int .i8 F2, .int .i8 F3, .int .i8 F4, .int .i8 F5, .int .i8 F6, .int .i8 F7, .int .i8 F8, .int .i8 F9, .int .i8 F10, .int .i8 F11, .int .i8 F12, .int .i8 F13, .int .i8 F14, .int .i8 F15, .int .i8 F16, .int .i8 F17, .int .i8 F18, .int .i8 F19, .int .i8 F20, .int .i8 F21, .int .i8 F22, .int .i8 F23, .int .i8 F24, .int .i8 F25, .int .i8 F26, .int .i8 F27, .slice A0_28 l0_28.length c0_28, .string F29, .string F30, .int .i64 F31], .string a1] rfl (by (try simp only [List.map_toArray, List.map_cons, List.map_nil]); first | done | rfl | (simp only [List.length_drop, List.length_take]; rfl)) ?_; (with_reducible refine (impl_gapLine_differs.calls k F0 F1 F2 F3 F4 F5 F6 F7 F8 F9 F10 F11 F12 F13 F14 F15 F16 F17 F18 F19 F20 F21 F22 F23 F24 F25 F26 F27 _ _ l0_28 F29 F30 F31 a1 t1092 true _ ?side1 ?side2 ?sideG A4.out).mono ?_); (case sideG => first | exact HG.out.below (by repeat (first | (with_reducible first | exact HB.out | apply bwA | apply pwN | apply bw1) | exact HB.out)) | exact (HG.out.below (by repeat (first | (with_reducible first | exact HB.out | apply bwA | apply pwN | apply bw1) | exact HB.out))).toM); (case side1 => repeat (first | exact (Kd.C_below HR0_28.out HB.out) | (with_reducible refine Kd.C_alloc ?_ _) | (with_reducible refine Kd.C_drewN ?_ _) | (with_reducible refine Kd.C_drew ?_))); (case side2 => exact HC0_28.out); rintro e w7 ⟨rfl, hb⟩; refine ⟨_, rfl, ?_⟩; have n0_ := Aside0.mk (blk_below (g := gb1091) (o := .cells #[.int .i8 F0, .int .i8 F1, .int .i8 F2, .int .i8 F3, .int .i8 F4, .int .i8 F5, .int .i8 F6, .int .i8 F7, .int .i8 F8, .int .i8 F9, .int .i8 F10, .int .i8 F11, .int .i8 F12, .int .i8 F13, .int .i8 F14, .int .i8 F15, .int .i8 F16, .int .i8 F17, .int .i8 F18, .int .i8 F19, .int .i8 F20, .int .i8 F21, .int .i8 F22, .int .i8 F23, .int .i8 F24, .int .i8 F25, .int .i8 F26, .int .i8 F27, .slice A0_28 l0_28.length c0_28, .string F29, .string F30, .int .i64 F31] 108 (0, 0)) (by (with_reducible repeat (first | refine blk_drewN ?_ _ | refine blk_drew ?_ | refine blk_alloc ?_ _)); exact BK1091.out) hb); have n1_ := Aside0.mk (below_step (by repeat (first | (with_reducible first | exact HB.out | apply bwA | apply pwN | apply bw1 | refine below_set ?_ GE1091.out) | exact HB.out)) hb); clear BK1091; clear HB; have BK1091 := n0_; have HB := n1_; clear n0_ n1_; (try clear hb); (try clear hb2); (try clear hk); (try clear hi)))
  go_ret
  exact ⟨by first | rfl | (simp [errW_none, errW_some] <;> rfl) | (simp [*, errW_none, errW_some] <;> rfl), by repeat (first | (with_reducible first | exact HB.out | apply bwA | apply pwN | apply bw1 | refine below_set ?_ GE1091.out) | exact HB.out)⟩
 ·replace c5 := Bool.eq_false_iff.mpr c5
  subst c5
  rw [if_neg (show ¬ (false = true) by decide)] at H
  have H1 := H
  clear H
  have H := H1
  clear H1
  obtain rfl := Option.some.inj H
  go_enter Tryd.func91, Tryd.ntmps91
  go_wp2_with (first | ((with_reducible refine gate_dst (N := 3) rfl ?_); refine box_event ?hg (N := 3) ?hd (cs := #[.int .i8 F0, .int .i8 F1, .int .i8 F2, .int .i8 F3, .int .i8 F4, .int .i8 F5, .int .i8 F6, .int .i8 F7, .int .i8 F8, .int .i8 F9, .int .i8 F10, .int .i8 F11, .int .i8 F12, .int .i8 F13, .int .i8 F14, .int .i8 F15, .int .i8 F16, .int .i8 F17, .int .i8 F18, .int .i8 F19, .int .i8 F20, .int .i8 F21, .int .i8 F22, .int .i8 F23, .int .i8 F24, .int .i8 F25, .int .i8 F26, .int .i8 F27, .slice A0_28 l0_28.length c0_28, .string F29, .string F30, .int .i64 F31]) (t := 108) ?hr ?_; (case hd => rfl); (case hg => rfl); (case hr => first | (go_simp; done) | (go_simp; rfl)); intro gb1091 hg w8 hbox hb; have n0_ := Aside0.mk (below_step (by repeat (first | (with_reducible first | exact HB.out | apply bwA | apply pwN | apply bw1) | exact HB.out)) hb); have n1_ := Aside0.mk (hbox); have n2_ := Aside0.mk ((by rw [hg]; exact (below_size (by repeat (first | (with_reducible first | exact HB.out | apply bwA | apply pwN | apply bw1) | exact HB.out))) : w.heap.size ≤ gb1091)); have n3_ := Aside0.mk ((by rw [hg]; exact (below_size (by repeat (first | (with_reducible first | exact HB.out | apply bwA | apply pwN | apply bw1) | exact HB.out))) : w.heap.size ≤ gb1091)); clear HB; have HB := n0_; have BK1091 := n1_; have GW1091 := n2_; have GE1091 := n3_; clear n0_ n1_ n2_ n3_; clear hb hbox hg) | ((with_reducible refine gate_dst (N := 10) rfl ?_); refine wpList_load_mid rfl 108 (.tmp 3) rfl gb1091 0 rfl [.int .i8 F0, .int .i8 F1, .int .i8 F2, .int .i8 F3, .int .i8 F4, .int .i8 F5, .int .i8 F6, .int .i8 F7, .int .i8 F8, .int .i8 F9, .int .i8 F10, .int .i8 F11, .int .i8 F12, .int .i8 F13, .int .i8 F14, .int .i8 F15, .int .i8 F16, .int .i8 F17, .int .i8 F18, .int .i8 F19, .int .i8 F20, .int .i8 F21, .int .i8 F22, .int .i8 F23, .int .i8 F24, .int .i8 F25, .int .i8 F26, .int .i8 F27, .slice A0_28 l0_28.length c0_28, .string F29, .string F30, .int .i64 F31] _ (range_partx_ [] [.int .i8 F0, .int .i8 F1, .int .i8 F2, .int .i8 F3, .int .i8 F4, .int .i8 F5, .int .i8 F6, .int .i8 F7, .int .i8 F8, .int .i8 F9, .int .i8 F10, .int .i8 F11, .int .i8 F12, .int .i8 F13, .int .i8 F14, .int .i8 F15, .int .i8 F16, .int .i8 F17, .int .i8 F18, .int .i8 F19, .int .i8 F20, .int .i8 F21, .int .i8 F22, .int .i8 F23, .int .i8 F24, .int .i8 F25, .int .i8 F26, .int .i8 F27, .slice A0_28 l0_28.length c0_28, .string F29, .string F30, .int .i64 F31] [] 0 rfl (by (with_reducible repeat (first | refine blk_drewN ?_ _ | refine blk_drew ?_ | refine blk_alloc ?_ _)); exact BK1091.out)) Tryd.underlying108 rfl (by exact (show (Tryd.prog.info? 108).map (·.size) = some 32 by kernel_rfl)) ?_) | ((with_reducible refine gate_callee (f := 92) rfl ?_); refine goesL_ (some 12) rfl rfl Tryd.func92 (by kernel_rfl) rfl #[.agg #[.int .i8 F0, .int .i8 F1, .int .i8 F2, .int .i8 F3, .int .i8 F4, .int .i8 F5, .int .i8 F6, .int .i8 F7, .int .i8 F8, .int .i8 F9, .int .i8 F10, .int .i8 F11, .int .i8 F12, .int .i8 F13, .int .i8 F14, .int .i8 F15, .int .i8 F16, .int .i8 F17, .int .i8 F18, .int .i8 F19, .int .i8 F20, .int .i8 F21, .int .i8 F22, .int .i8 F23, .int .i8 F24, .int .i8 F25, .int .i8 F26, .int .i8 F27, .slice A0_28 l0_28.length c0_28, .string F29, .string F30, .int .i64 F31], .string a1] rfl (by (try simp only [List.map_toArray, List.map_cons, List.map_nil]); first | done | rfl | (simp only [List.length_drop, List.length_take]; rfl)) ?_; (with_reducible refine (impl_gapLine_differs.calls k F0 F1 F2 F3 F4 F5 F6 F7 F8 F9 F10 F11 F12 F13 F14 F15 F16 F17 F18 F19 F20 F21 F22 F23 F24 F25 F26 F27 _ _ l0_28 F29 F30 F31 a1 t1092 false _ ?side1 ?side2 ?sideG A4.out).mono ?_); (case sideG => first | exact HG.out.below (by repeat (first | (with_reducible first | exact HB.out | apply bwA | apply pwN | apply bw1) | exact HB.out)) | exact (HG.out.below (by repeat (first | (with_reducible first | exact HB.out | apply bwA | apply pwN | apply bw1) | exact HB.out))).toM); (case side1 => repeat (first | exact (Kd.C_below HR0_28.out HB.out) | (with_reducible refine Kd.C_alloc ?_ _) | (with_reducible refine Kd.C_drewN ?_ _) | (with_reducible refine Kd.C_drew ?_))); (case side2 => exact HC0_28.out); rintro e w9 ⟨rfl, hb⟩; refine ⟨_, rfl, ?_⟩; have n0_ := Aside0.mk (blk_below (g := gb1091) (o := .cells #[.int .i8 F0, .int .i8 F1, .int .i8 F2, .int .i8 F3, .int .i8 F4, .int .i8 F5, .int .i8 F6, .int .i8 F7, .int .i8 F8, .int .i8 F9, .int .i8 F10, .int .i8 F11, .int .i8 F12, .int .i8 F13, .int .i8 F14, .int .i8 F15, .int .i8 F16, .int .i8 F17, .int .i8 F18, .int .i8 F19, .int .i8 F20, .int .i8 F21, .int .i8 F22, .int .i8 F23, .int .i8 F24, .int .i8 F25, .int .i8 F26, .int .i8 F27, .slice A0_28 l0_28.length c0_28, .string F29, .string F30, .int .i64 F31] 108 (0, 0)) (by (with_reducible repeat (first | refine blk_drewN ?_ _ | refine blk_drew ?_ | refine blk_alloc ?_ _)); exact BK1091.out) hb); have n1_ := Aside0.mk (below_step (by repeat (first | (with_reducible first | exact HB.out | apply bwA | apply pwN | apply bw1 | refine below_set ?_ GE1091.out) | exact HB.out)) hb); clear BK1091; clear HB; have BK1091 := n0_; have HB := n1_; clear n0_ n1_; (try clear hb); (try clear hb2); (try clear hk); (try clear hi)))
  go_ret
  exact ⟨by first | rfl | (simp [errW_none, errW_some] <;> rfl) | (simp [*, errW_none, errW_some] <;> rfl), by repeat (first | (with_reducible first | exact HB.out | apply bwA | apply pwN | apply bw1 | refine below_set ?_ GE1091.out) | exact HB.out)⟩
end Go.Proofs.YticjkfacdmmopaaDoor.Q
namespace Go.Proofs.YticjkfacdmmopaaDoor.Pure
open Go.RowKit Go.Proofs.YticjkfacdmmopaaDoor.Ext Go.Proofs.YticjkfacdmmopaaDoor.Q Go.Proofs.YticjkfacdmmopaaDoor.Txt Go.Proofs.YticjkfacdmmopaaDoor.Face Go.Proofs.YticjkfacdmmopaaDoorW.PrintWords Go.Proofs.YticjkfacdmmopaaDoorW.PrintLast Go.Proofs.YticjkfacdmmopaaDoorW.PrintMore
set_option linter.unusedVariables false
set_option linter.unusedSimpArgs false
set_option maxRecDepth 100000
def spacedB (t : List UInt8) : Bool := t.all okB && noTwo t
def partAt (t : List UInt8) (i : Nat) : Bool := okB (t.getD i 0) && !(t.getD i 0 == 32 && (decide (0 < i) && t.getD (i - 1) 0 == 32))
theorem part_l0 (s : ByteArray) (hs : s.size ≤ 4611686018427387904) : ∀ (d k i : Nat), i + d = s.size → d < k → spec_l04Part.l0 k s i = some ((List.range' i d).all (partAt s.data.toList))
 | 0, k, i, hd, hk => by
  obtain ⟨k, rfl⟩ := some_k hk
  rw [spec_l04Part.l0, if_neg (by omega)]
  rfl
 | d + 1, k, i, hd, hk => by
  obtain ⟨k, rfl⟩ := some_k hk
  have hlen : s.data.toList.length = s.size := data_length s
  have hin : i < s.data.toList.length := by omega
  have ih := part_l0 s hs d k (i + 1) (by omega) (by omega)
  rw [spec_l04Part.l0, if_pos (by omega), if_pos (by omega), wrap_succ i (by omega), ih, letter_eq s i hin, bt_get s i hin, Option.bind_some, range_succ, List.all_cons]
  by_cases h : s.data.toList.getD i 0 = 32
  ·rw [if_pos ((is32 _).2 h)]
   have hok : okB (s.data.toList.getD i 0) = true := by unfold okB; rw [h]; rfl
   by_cases h0 : i = 0
   ·rw [if_neg (by omega)]
    have e : partAt s.data.toList i = true := by
     unfold partAt
     rw [hok, show decide (0 < i) = false by simp [h0], Bool.false_and, Bool.and_false]; rfl
    rw [e, Bool.true_and]
   ·rw [if_pos (by omega), w64 (x := (i : Int) - 1) (by omega) (by omega), if_pos (by omega), if_pos (by omega), show (i : Int) - 1 = ((i - 1 : Nat) : Int) by omega, bt_get s (i - 1) (by omega)]
    have hd0 : decide (0 < i) = true := by simp; omega
    by_cases h1 : s.data.toList.getD (i - 1) 0 = 32
    ·rw [if_pos ((is32 _).2 h1)]
     have e : partAt s.data.toList i = false := by
      unfold partAt
      rw [hok, h, h1, hd0]; rfl
     rw [e, Bool.false_and]
    ·rw [if_neg (fun hh => h1 ((is32 _).1 hh))]
     have e : partAt s.data.toList i = true := by
      unfold partAt
      rw [hok, show (s.data.toList.getD (i - 1) 0 == 32) = false by simpa using h1, Bool.and_false, Bool.and_false]; rfl
     rw [e, Bool.true_and]
  ·rw [if_neg (fun hh => h ((is32 _).1 hh))]
   have h32 : (s.data.toList.getD i 0 == 32) = false := by rw [beq_eq_false_iff_ne]; exact h
   have e : partAt s.data.toList i = (decide (65 ≤ (s.data.toList.getD i 0).toNat) && decide ((s.data.toList.getD i 0).toNat ≤ 90)) := by
    unfold partAt okB
    rw [h32, Bool.or_false, Bool.false_and, Bool.not_false, Bool.and_true]
   rw [e]
   cases (decide (65 ≤ (s.data.toList.getD i 0).toNat) && decide ((s.data.toList.getD i 0).toNat ≤ 90))
   ·rw [if_neg (by simp)]; rfl
   ·rw [if_pos rfl, Bool.true_and]; split <;> rfl
theorem part_iff (t : List UInt8) : (List.range' 0 t.length).all (partAt t) = spacedB t := by
 unfold spacedB
 rw [Bool.eq_iff_iff, Bool.and_eq_true, noTwo_iff, ← range_all t okB]
 simp only [List.all_eq_true, List.mem_range', Nat.zero_add, Nat.one_mul]
 have hp : ∀ i, partAt t i = true ↔ okB (t.getD i 0) = true ∧ ¬ (t.getD i 0 = 32 ∧ 0 < i ∧ t.getD (i - 1) 0 = 32) := by
  intro i
  unfold partAt
  rw [Bool.and_eq_true]
  refine and_congr_right fun _ => ?_
  rw [Bool.not_eq_true', Bool.eq_false_iff]
  simp
 constructor
 ·intro h
  refine ⟨?_, ?_⟩
  ·rintro i ⟨j, hj, rfl⟩
   exact ((hp _).1 (h _ ⟨_, hj, rfl⟩)).1
  ·rintro i hi ⟨h1, h2⟩
   exact ((hp (i + 1)).1 (h (i + 1) ⟨i + 1, hi, rfl⟩)).2 ⟨h2, by omega, h1⟩
 ·rintro ⟨h1, h2⟩ i ⟨j, hj, rfl⟩
  rw [hp]
  refine ⟨h1 _ ⟨_, hj, rfl⟩, ?_⟩
  rintro ⟨h3, h4, h5⟩
  exact h2 (i - 1) (by omega) ⟨h5, by rw [show i - 1 + 1 = i by omega]; exact h3⟩
theorem part_eq (s : ByteArray) (hs : s.size ≤ 1048576) {k : Nat} (hk : 1048576 < k) : spec_l04Part.f k s = some (spacedB s.data.toList) := by
 unfold spec_l04Part.f
 have h := part_l0 s (by omega) s.size k 0 (by omega) (by omega)
 rw [show ((0 : Nat) : Int) = 0 from rfl] at h
 have hlen : s.data.toList.length = s.size := data_length s
 have h2 := part_iff s.data.toList
 rw [hlen] at h2
 rw [h, h2]
theorem isSpaced_eq (s : ByteArray) (hs : s.size ≤ 1048576) {k : Nat} (hk : 1048576 < k) : impl_isSpaced.f k s = some (spacedB s.data.toList) := by
 unfold impl_isSpaced.f
 have h := spaced_l0 s (by omega) s.size k 0 (by omega) (by omega)
 rw [show ((0 : Nat) : Int) = 0 from rfl] at h
 have hlen : s.data.toList.length = s.size := data_length s
 have h2 := range_all s.data.toList okB
 rw [hlen] at h2
 rw [h, h2, contains_two, Bool.not_not]
 rfl
theorem l04Word_eq (s : ByteArray) (hs : s.size ≤ 1048576) {k : Nat} (hk : 1048577 < k) : spec_l04Word.f k s = some (shortB s) := by
 unfold spec_l04Word.f
 rw [in_eq, Option.bind_some]
 have hlen : s.data.toList.length = s.size := data_length s
 cases h : inB (s.size : Int) 1 20
 ·rw [if_neg (by simp)]
  congr 1
  symm
  unfold shortB
  rw [Bool.and_eq_false_iff]
  have h' : ¬ (1 ≤ (s.size : Int) ∧ (s.size : Int) ≤ 20) := fun hh => by rw [inB_iff.2 hh] at h; cases h
  by_cases h0 : s.size = 0
  ·left
   have : s.data.toList = [] := List.length_eq_zero_iff.1 (by omega)
   rw [this]
   rfl
  ·right
   rw [decide_eq_false_iff_not]
   omega
 ·have h' := inB_iff.1 h
  rw [if_pos rfl]
  have hw : spec_l01Word.f k s = some (txt s.data.toList && wordB s.data.toList) := by
   unfold spec_l01Word.f
   have h1 := word_l0 s (by omega) s.size k 0 (by omega) (by omega)
   rw [show ((0 : Nat) : Int) = 0 from rfl] at h1
   rw [h1, List.drop_zero]
   congr 1
   rw [Bool.eq_iff_iff, Bool.and_eq_true, Bool.and_eq_true]
   constructor
   ·rintro ⟨h2, h3⟩
    have hl : lts s.data.toList := by
     intro b hb
     have := List.all_eq_true.1 h2 b hb
     simpa using this
    have hno : ∀ b ∈ s.data.toList, b ≠ 32 := fun b hb => letter_ok (hl b hb)
    refine ⟨?_, ?_⟩
    ·unfold txt
     rw [Bool.and_eq_true, Bool.and_eq_true, Bool.and_eq_true, Bool.and_eq_true]
     refine ⟨⟨by simp; omega, ?_, ?_⟩, ?_, ?_⟩
     ·rw [List.all_eq_true]
      intro b hb
      have := hl b hb
      unfold okB
      simp [this]
     ·rw [noTwo_iff]
      rintro i hi ⟨h4, _⟩
      exact hno _ (getD_mem (by omega)) h4
     ·rw [bne_iff_ne]
      intro hh
      exact hno 32 (List.mem_of_mem_head? hh) rfl
     ·rw [bne_iff_ne]
      intro hh
      exact hno 32 (List.mem_of_getLast? hh) rfl
    ·unfold wordB
     rw [Bool.and_eq_true]
     refine ⟨?_, ?_⟩
     ·rw [bne_iff_ne]
      intro hh
      rw [hh] at hlen
      simp at hlen
      omega
     ·rw [List.all_eq_true]
      intro b hb
      simpa using hno b hb
   ·rintro ⟨h2, h3⟩
    refine ⟨?_, by simp; omega⟩
    rw [List.all_eq_true]
    intro b hb
    unfold wordB at h3
    rw [Bool.and_eq_true] at h3
    have := (txt_ok h2 b hb).resolve_left (by simpa using List.all_eq_true.1 h3.2 b hb)
    simpa using this
  rw [hw, Option.bind_some]
  unfold shortB
  rw [show decide (s.size ≤ 20) = true by simp; omega, Bool.and_true]
theorem l04List_l0 (l : List ByteArray) (hl : ∀ s ∈ l, s.size ≤ 1048576) (hn : l.length ≤ 1048576) : ∀ (d k i : Nat), i + d = l.length → d + 1048577 < k → spec_l04List.l0 k l i = some ((l.drop i).all shortB && decide (l.length ≤ 12))
 | 0, k, i, hd, hk => by
  obtain ⟨k, rfl⟩ := some_k hk
  rw [spec_l04List.l0, if_neg (by omega), List.drop_eq_nil_of_le (by omega), List.all_nil, Bool.true_and]
  congr 1
  rw [Bool.eq_iff_iff, decide_eq_true_iff, decide_eq_true_iff]
  omega
 | d + 1, k, i, hd, hk => by
  obtain ⟨k, rfl⟩ := some_k hk
  have hi : i < l.length := by omega
  have hg : rdOf ByteArray.empty l (i : Int) = l[i] := by
   unfold rdOf
   rw [Int.toNat_natCast, List.getD_eq_getElem?_getD, List.getElem?_eq_getElem hi]
   rfl
  rw [spec_l04List.l0, if_pos (by omega), if_pos (by omega), hg, l04Word_eq _ (hl _ (List.getElem_mem hi)) (by omega), Option.bind_some, wrap_succ i (by omega), l04List_l0 l hl hn d k (i + 1) (by omega) (by omega), List.drop_eq_getElem_cons hi, List.all_cons]
  cases shortB l[i]
  ·rw [if_neg (by simp)]; rfl
  ·rw [if_pos rfl, Bool.true_and]
theorem l04List_eq (l : List ByteArray) (hl : ∀ s ∈ l, s.size ≤ 1048576) (hn : l.length ≤ 1048576) {k : Nat} (hk : 2097154 < k) : spec_l04List.f k l = some (listB l) := by
 unfold spec_l04List.f listB
 have h := l04List_l0 l hl hn l.length k 0 (by omega) (by omega)
 rw [show ((0 : Nat) : Int) = 0 from rfl] at h
 rw [h, List.drop_zero, Bool.and_comm]
def gapC (L : List Int) (P : List Pr) (a b : ByteArray) (l : List ByteArray) (n m : Int) : Int :=
 if faceB L P && listB l then (if inB n 0 4000 && inB m 0 100 then (if spacedB a.data.toList && spacedB b.data.toList then 0 else 5) else 2) else 1
theorem gapCode_eq {L : List Int} {P : List Pr} (hl : L.length = 28) (hr : rngB L P = true) (a b : ByteArray) (ha : a.size ≤ 1048576) (hb : b.size ≤ 1048576) (l : List ByteArray) (n m : Int) {k : Nat} (hk : 1048578 < k) : impl_gapCode.f k (rd L 0) (rd L 1) (rd L 2) (rd L 3) (rd L 4) (rd L 5) (rd L 6) (rd L 7) (rd L 8) (rd L 9) (rd L 10) (rd L 11) (rd L 12) (rd L 13) (rd L 14) (rd L 15) (rd L 16) (rd L 17) (rd L 18) (rd L 19) (rd L 20) (rd L 21) (rd L 22) (rd L 23) (rd L 24) (rd L 25) (rd L 26) (rd L 27) P a b n l m = some (gapC L P a b l n m) := by
 obtain ⟨k, rfl⟩ : ∃ k', k = k' + 1 + 1 := ⟨k - 2, by omega⟩
 unfold impl_gapCode.f gapC impl_ValidList.f
 rw [validFace_eq hl hr, Option.bind_some, Option.bind_some]
 cases faceB L P
 ·rw [if_neg (by simp), impl_gapCode.j0, if_pos rfl]; rfl
 rw [if_pos rfl, Bool.true_and, impl_gapCode.j0]
 cases listB l
 ·rw [if_pos (show (!false) = true from rfl)]; rfl
 rw [if_neg (by simp), if_pos rfl, within_eq, Option.bind_some]
 cases inB n 0 4000
 ·rw [if_neg (by simp), impl_gapCode.j1, if_pos rfl]; rfl
 rw [if_pos rfl, within_eq, Option.bind_some, impl_gapCode.j1, Bool.true_and]
 cases inB m 0 100
 ·rw [if_pos (show (!false) = true from rfl)]; rfl
 rw [if_neg (by simp), if_pos rfl, isSpaced_eq a ha (by omega), Option.bind_some, isSpaced_eq b hb (by omega)]
 unfold impl_unless.f
 cases spacedB a.data.toList <;> cases spacedB b.data.toList <;> rfl
theorem l04Asked_eq {L : List Int} {P : List Pr} (hl : L.length = 28) (hr : rngB L P = true) (a b : ByteArray) (ha : a.size ≤ 1048576) (hb : b.size ≤ 1048576) (l : List ByteArray) (hls : ∀ s ∈ l, s.size ≤ 1048576) (hn : l.length ≤ 1048576) (n m : Int) {k : Nat} (hk : 2097156 < k) : spec_l04Asked.f k (rd L 0) (rd L 1) (rd L 2) (rd L 3) (rd L 4) (rd L 5) (rd L 6) (rd L 7) (rd L 8) (rd L 9) (rd L 10) (rd L 11) (rd L 12) (rd L 13) (rd L 14) (rd L 15) (rd L 16) (rd L 17) (rd L 18) (rd L 19) (rd L 20) (rd L 21) (rd L 22) (rd L 23) (rd L 24) (rd L 25) (rd L 26) (rd L 27) P a b l n m = some (gapC L P a b l n m) := by
 obtain ⟨k, rfl⟩ : ∃ k', k = k' + 1 + 1 := ⟨k - 2, by omega⟩
 unfold spec_l04Asked.f gapC
 rw [l01Face_eq hl hr, Option.bind_some, l04List_eq l hls hn (by omega), Option.bind_some]
 cases faceB L P
 ·rw [if_neg (by simp), spec_l04Asked.j0, if_pos rfl]; rfl
 rw [if_pos rfl, Bool.true_and, spec_l04Asked.j0]
 cases listB l
 ·rw [if_pos (show (!false) = true from rfl)]; rfl
 rw [if_neg (by simp), if_pos rfl, room_eq, Option.bind_some]
 cases inB n 0 4000
 ·rw [if_neg (by simp), spec_l04Asked.j1, if_pos rfl]; rfl
 rw [if_pos rfl, in_eq, Option.bind_some, spec_l04Asked.j1, Bool.true_and]
 cases inB m 0 100
 ·rw [if_pos (show (!false) = true from rfl)]; rfl
 rw [if_neg (by simp), if_pos rfl, part_eq a ha (by omega), Option.bind_some, part_eq b hb (by omega)]
 cases spacedB a.data.toList <;> cases spacedB b.data.toList <;> rfl
theorem gapC_zero {L : List Int} {P : List Pr} {a b : ByteArray} {l : List ByteArray} {n m : Int} (h : gapC L P a b l n m = 0) : faceB L P = true ∧ listB l = true ∧ (0 ≤ n ∧ n ≤ 4000) ∧ (0 ≤ m ∧ m ≤ 100) := by
 unfold gapC at h
 split at h
 ·rename_i h1
  rw [Bool.and_eq_true] at h1
  split at h
  ·rename_i h2
   rw [Bool.and_eq_true] at h2
   exact ⟨h1.1, h1.2, inB_iff.1 h2.1, inB_iff.1 h2.2⟩
  ·omega
 ·omega
def offV (L : List Int) (P : List Pr) (T : ByteArray) (n : Int) : Int := if lineOf L P T.data.toList - n < 0 then n - lineOf L P T.data.toList else lineOf L P T.data.toList - n
theorem offV_in {L : List Int} {P : List Pr} (F : FaceOk L P) {T : ByteArray} (h : txt T.data.toList = true) {n : Int} (h0 : 0 ≤ n) (h1 : n ≤ 4000) : 0 ≤ offV L P T n ∧ offV L P T n ≤ 10000 := by
 have := line_room F h
 unfold offV
 split <;> omega
theorem off_eq {L : List Int} {P : List Pr} (F : FaceOk L P) (T : ByteArray) (hT : T.size ≤ 4611686018427387904) (n : Int) (h0 : 0 ≤ n) (h1 : n ≤ 4000) {k : Nat} (hk : T.size + 200 < k) : spec_l04Off.f k (rd L 0) (rd L 1) (rd L 2) (rd L 3) (rd L 4) (rd L 5) (rd L 6) (rd L 7) (rd L 8) (rd L 9) (rd L 10) (rd L 11) (rd L 12) (rd L 13) (rd L 14) (rd L 15) (rd L 16) (rd L 17) (rd L 18) (rd L 19) (rd L 20) (rd L 21) (rd L 22) (rd L 23) (rd L 24) (rd L 25) (rd L 26) (rd L 27) P T n = some (if txt T.data.toList then offV L P T n else -1) := by
 unfold spec_l04Off.f spec_l00Max.f
 rw [text_eq T hT (by omega), Option.bind_some]
 cases ht : txt T.data.toList
 ·rw [if_neg (by simp)]; rfl
 ·have hr := line_room F ht
  rw [if_pos rfl, words_eq T (txt_size ht) (by omega), Option.bind_some, line_eq F T (txt_size ht) (txt_ok ht) (by omega), Option.bind_some, w64 (x := lineOf L P T.data.toList - n) (by omega) (by omega), w64 (x := -(lineOf L P T.data.toList - n)) (by omega) (by omega), if_pos rfl]
  unfold offV
  split
  ·rw [if_neg (by omega), Option.bind_some]
  ·split
   ·rw [Option.bind_some]; congr 1; omega
   ·rw [Option.bind_some]; congr 1; omega
theorem differs_eq {L : List Int} {P : List Pr} (F : FaceOk L P) (a b p : ByteArray) (hs : a.size + p.size + b.size ≤ 9223372036854775807) (n : Int) (h0 : 0 ≤ n) (h1 : n ≤ 4000) {k : Nat} (hk : 140 < k) : impl_gapLine_differs.f k (rd L 0) (rd L 1) (rd L 2) (rd L 3) (rd L 4) (rd L 5) (rd L 6) (rd L 7) (rd L 8) (rd L 9) (rd L 10) (rd L 11) (rd L 12) (rd L 13) (rd L 14) (rd L 15) (rd L 16) (rd L 17) (rd L 18) (rd L 19) (rd L 20) (rd L 21) (rd L 22) (rd L 23) (rd L 24) (rd L 25) (rd L 26) (rd L 27) P a b n p = some (if txt ((a ++ p) ++ b).data.toList then (offV L P ((a ++ p) ++ b) n, true) else (0, false)) := by
 unfold impl_gapLine_differs.f
 rw [if_pos (by omega), if_pos (by rw [ByteArray.size_append]; omega), valid_eq _ (.inr (by omega)), Option.bind_some]
 cases ht : txt ((a ++ p) ++ b).data.toList
 ·rw [if_neg (by simp)]; rfl
 ·have hr := line_room F ht
  rw [if_pos rfl, fwide_eq F _ (txt_size ht) (txt_ok ht) hk, Option.bind_some, w64 (x := lineOf L P ((a ++ p) ++ b).data.toList - n) (by omega) (by omega), w64 (x := -(lineOf L P ((a ++ p) ++ b).data.toList - n)) (by omega) (by omega), if_pos rfl]
  unfold offV mx
  congr 2
  split <;> split <;> omega
theorem fits_eq {L : List Int} {P : List Pr} (F : FaceOk L P) (a b p : ByteArray) (hs : a.size + p.size + b.size ≤ 9223372036854775807) (n m : Int) (h0 : 0 ≤ n) (h1 : n ≤ 4000) {k : Nat} (hk : 140 < k) : impl_gapLine_fits.f k (rd L 0) (rd L 1) (rd L 2) (rd L 3) (rd L 4) (rd L 5) (rd L 6) (rd L 7) (rd L 8) (rd L 9) (rd L 10) (rd L 11) (rd L 12) (rd L 13) (rd L 14) (rd L 15) (rd L 16) (rd L 17) (rd L 18) (rd L 19) (rd L 20) (rd L 21) (rd L 22) (rd L 23) (rd L 24) (rd L 25) (rd L 26) (rd L 27) P a b n p m = some (txt ((a ++ p) ++ b).data.toList && decide (offV L P ((a ++ p) ++ b) n ≤ m)) := by
 unfold impl_gapLine_fits.f
 rw [differs_eq F a b p hs n h0 h1 hk, Option.bind_some]
 cases ht : txt ((a ++ p) ++ b).data.toList <;> simp
theorem inOff_eq {L : List Int} {P : List Pr} (F : FaceOk L P) (T : ByteArray) (n m : Int) (h0 : 0 ≤ n) (h1 : n ≤ 4000) : inB (if txt T.data.toList then offV L P T n else -1) 0 m = (txt T.data.toList && decide (offV L P T n ≤ m)) := by
 cases ht : txt T.data.toList
 ·rw [Bool.false_and, Bool.eq_false_iff]
  intro h
  have := inB_iff.1 h
  simp at this
 ·have := offV_in F ht h0 h1
  rw [if_pos rfl, Bool.true_and, Bool.eq_iff_iff, decide_eq_true_iff]
  constructor
  ·intro h; exact (inB_iff.1 h).2
  ·intro h; exact inB_iff.2 ⟨this.1, h⟩
end Go.Proofs.YticjkfacdmmopaaDoor.Pure
namespace Go.Proofs.YticjkfacdmmopaaDoor.Ext
end Go.Proofs.YticjkfacdmmopaaDoor.Ext
namespace Go.Proofs.YticjkfacdmmopaaDoor.Q
open Go.Proofs.YticjkfacdmmopaaDoor.Ext
open Go.RowKit Go.Proofs.YticjkfacdmmopaaDoorW.PrintWords Go.Proofs.YticjkfacdmmopaaDoorW.PrintLast Go.Proofs.YticjkfacdmmopaaDoorW.PrintMore
attribute [local go_sem] max2_int min2_int max_two min_two max_three min_three max_four min_four
set_option linter.unusedVariables false
set_option linter.unusedSimpArgs false
def laws_toPair.f (F0 F1 F2 : Int) : Option (Int × Int × Int) := some (F0, F1, F2)
set_option maxHeartbeats 8000000 in
set_option maxRecDepth 100000 in
theorem laws_toPair.calls (F0 F1 F2 r1 r2 r3 : Int) (w : World) (h : laws_toPair.f F0 F1 F2 = some (r1, r2, r3)) :
  Calls Tryd.prog 120 #[.agg #[.int .u8 F0, .int .u8 F1, .int .i8 F2]] w fun e w' => e = .returned (.agg #[.int .u8 r1, .int .u8 r2, .int .i8 r3]) ∧ Below w.heap.size w w' := by
 have hu139 := Tryd.underlying139
 have hu137 := Tryd.underlying137
 have HB := Aside0.mk (Below.refl w.heap.size w)
 have H : (some (F0, F1, F2)) = some (r1, r2, r3) := h
 clear h
 simp only [Option.some.injEq, Prod.mk.injEq] at H
 obtain ⟨rfl, rfl, rfl⟩ := H
 go_enter Tryd.func120, Tryd.ntmps120
 go_wp2_with (first | ((with_reducible refine gate_dst (N := 1) rfl ?_); refine box_event ?hg (N := 1) ?hd (cs := #[.int .u8 F0, .int .u8 F1, .int .i8 F2]) (t := 139) ?hr ?_; (case hd => rfl); (case hg => rfl); (case hr => first | (go_simp; done) | (go_simp; rfl)); intro gb120 hg w2 hbox hb; have n0_ := Aside0.mk (below_step (by repeat (first | (with_reducible first | exact HB.out | apply bwA | apply pwN | apply bw1) | exact HB.out)) hb); have n1_ := Aside0.mk (hbox); have n2_ := Aside0.mk ((by rw [hg]; exact (below_size (by repeat (first | (with_reducible first | exact HB.out | apply bwA | apply pwN | apply bw1) | exact HB.out))) : w.heap.size ≤ gb120)); have n3_ := Aside0.mk ((by rw [hg]; exact (below_size (by repeat (first | (with_reducible first | exact HB.out | apply bwA | apply pwN | apply bw1) | exact HB.out))) : w.heap.size ≤ gb120)); clear HB; have HB := n0_; have BK120 := n1_; have GW120 := n2_; have GE120 := n3_; clear n0_ n1_ n2_ n3_; clear hb hbox hg) | ((with_reducible refine gate_dst (N := 2) rfl ?_); refine box_event ?hg (N := 2) ?hd (cs := #[.int .u8 0, .int .u8 0, .int .i8 0]) (t := 137) ?hr ?_; (case hd => rfl); (case hg => rfl); (case hr => first | (go_simp; done) | (go_simp; rfl)); intro gb121 hg w3 hbox hb; have n0_ := Aside0.mk (blk_below (g := gb120) (o := .cells #[.int .u8 F0, .int .u8 F1, .int .i8 F2] 139 (0, 0)) (by (with_reducible repeat (first | refine blk_drewN ?_ _ | refine blk_drew ?_ | refine blk_alloc ?_ _)); exact BK120.out) hb); have n1_ := Aside0.mk (below_step (by repeat (first | (with_reducible first | exact HB.out | apply bwA | apply pwN | apply bw1 | refine below_set ?_ GE120.out) | exact HB.out)) hb); have n2_ := Aside0.mk (hbox); have n3_ := Aside0.mk ((by rw [hg]; exact (below_size (by repeat (first | (with_reducible first | exact HB.out | apply bwA | apply pwN | apply bw1 | refine below_set ?_ GE120.out) | exact HB.out))) : w.heap.size ≤ gb121)); have n4_ := Aside0.mk ((by rw [hg]; exact (below_size (by repeat (first | (with_reducible first | exact HB.out | apply bwA | apply pwN | apply bw1 | refine below_set ?_ GE120.out) | exact HB.out))) : w.heap.size ≤ gb121)); have n5_ := Aside0.mk ((by rw [hg]; exact Nat.ne_of_lt (blk_lt (g := gb120) (o := .cells #[.int .u8 F0, .int .u8 F1, .int .i8 F2] 139 (0, 0)) (by (with_reducible repeat (first | refine blk_drewN ?_ _ | refine blk_drew ?_ | refine blk_alloc ?_ _)); exact BK120.out)) : gb120 ≠ gb121)); have n6_ := Aside0.mk ((by rw [hg]; exact Nat.ne_of_gt (blk_lt (g := gb120) (o := .cells #[.int .u8 F0, .int .u8 F1, .int .i8 F2] 139 (0, 0)) (by (with_reducible repeat (first | refine blk_drewN ?_ _ | refine blk_drew ?_ | refine blk_alloc ?_ _)); exact BK120.out)) : gb121 ≠ gb120)); clear BK120; clear HB; have BK120 := n0_; have HB := n1_; have BK121 := n2_; have GW121 := n3_; have GE121 := n4_; have NB120_121 := n5_; have NB121_120 := n6_; clear n0_ n1_ n2_ n3_ n4_ n5_ n6_; clear hb hbox hg) | ((with_reducible refine gate_dst (N := 3) rfl ?_); refine box_event ?hg (N := 3) ?hd (cs := #[.int .u8 0, .int .u8 0, .int .i8 0]) (t := 137) ?hr ?_; (case hd => rfl); (case hg => rfl); (case hr => first | (go_simp; done) | (go_simp; rfl)); intro gb122 hg w4 hbox hb; have n0_ := Aside0.mk (blk_below (g := gb120) (o := .cells #[.int .u8 F0, .int .u8 F1, .int .i8 F2] 139 (0, 0)) (by (with_reducible repeat (first | refine blk_drewN ?_ _ | refine blk_drew ?_ | refine blk_alloc ?_ _)); exact BK120.out) hb); have n1_ := Aside0.mk (blk_below (g := gb121) (o := .cells #[.int .u8 0, .int .u8 0, .int .i8 0] 137 (0, 0)) (by (with_reducible repeat (first | refine blk_drewN ?_ _ | refine blk_drew ?_ | refine blk_alloc ?_ _)); exact BK121.out) hb); have n2_ := Aside0.mk (below_step (by repeat (first | (with_reducible first | exact HB.out | apply bwA | apply pwN | apply bw1 | refine below_set ?_ GE120.out | refine below_set ?_ GE121.out) | exact HB.out)) hb); have n3_ := Aside0.mk (hbox); have n4_ := Aside0.mk ((by rw [hg]; exact (below_size (by repeat (first | (with_reducible first | exact HB.out | apply bwA | apply pwN | apply bw1 | refine below_set ?_ GE120.out | refine below_set ?_ GE121.out) | exact HB.out))) : w.heap.size ≤ gb122)); have n5_ := Aside0.mk ((by rw [hg]; exact (below_size (by repeat (first | (with_reducible first | exact HB.out | apply bwA | apply pwN | apply bw1 | refine below_set ?_ GE120.out | refine below_set ?_ GE121.out) | exact HB.out))) : w.heap.size ≤ gb122)); have n6_ := Aside0.mk ((by rw [hg]; exact Nat.ne_of_lt (blk_lt (g := gb120) (o := .cells #[.int .u8 F0, .int .u8 F1, .int .i8 F2] 139 (0, 0)) (by (with_reducible repeat (first | refine blk_drewN ?_ _ | refine blk_drew ?_ | refine blk_alloc ?_ _)); exact BK120.out)) : gb120 ≠ gb122)); have n7_ := Aside0.mk ((by rw [hg]; exact Nat.ne_of_gt (blk_lt (g := gb120) (o := .cells #[.int .u8 F0, .int .u8 F1, .int .i8 F2] 139 (0, 0)) (by (with_reducible repeat (first | refine blk_drewN ?_ _ | refine blk_drew ?_ | refine blk_alloc ?_ _)); exact BK120.out)) : gb122 ≠ gb120)); have n8_ := Aside0.mk ((by rw [hg]; exact Nat.ne_of_lt (blk_lt (g := gb121) (o := .cells #[.int .u8 0, .int .u8 0, .int .i8 0] 137 (0, 0)) (by (with_reducible repeat (first | refine blk_drewN ?_ _ | refine blk_drew ?_ | refine blk_alloc ?_ _)); exact BK121.out)) : gb121 ≠ gb122)); have n9_ := Aside0.mk ((by rw [hg]; exact Nat.ne_of_gt (blk_lt (g := gb121) (o := .cells #[.int .u8 0, .int .u8 0, .int .i8 0] 137 (0, 0)) (by (with_reducible repeat (first | refine blk_drewN ?_ _ | refine blk_drew ?_ | refine blk_alloc ?_ _)); exact BK121.out)) : gb122 ≠ gb121)); clear BK120; clear BK121; clear HB; have BK120 := n0_; have BK121 := n1_; have HB := n2_; have BK122 := n3_; have GW122 := n4_; have GE122 := n5_; have NB120_122 := n6_; have NB122_120 := n7_; have NB121_122 := n8_; have NB122_121 := n9_; clear n0_ n1_ n2_ n3_ n4_ n5_ n6_ n7_ n8_ n9_; clear hb hbox hg; have hnb5 := NB120_121.out; have hnc5 := NB121_120.out; have hnb6 := NB120_122.out; have hnc6 := NB122_120.out; have hcz7_0 : w4.cell? ⟨gb120, 0, none⟩ = some (.int .u8 F0) := (blk_cell BK120.out 0).trans rfl; have hcz7_1 : w4.cell? ⟨gb120, 1, none⟩ = some (.int .u8 F1) := (blk_cell BK120.out 1).trans rfl; have hcz7_2 : w4.cell? ⟨gb120, 2, none⟩ = some (.int .i8 F2) := (blk_cell BK120.out 2).trans rfl; have hfz7_0 := blk_frozen BK120.out 0; have hfz7_1 := blk_frozen BK120.out 1; have hfz7_2 := blk_frozen BK120.out 2; have hnb8 := NB122_121.out; have hnc8 := NB121_122.out; have hcz9_0 : w4.cell? ⟨gb122, 0, none⟩ = some (.int .u8 0) := (blk_cell BK122.out 0).trans rfl; have hcz9_1 : w4.cell? ⟨gb122, 1, none⟩ = some (.int .u8 0) := (blk_cell BK122.out 1).trans rfl; have hcz9_2 : w4.cell? ⟨gb122, 2, none⟩ = some (.int .i8 0) := (blk_cell BK122.out 2).trans rfl; have hfz9_0 := blk_frozen BK122.out 0; have hfz9_1 := blk_frozen BK122.out 1; have hfz9_2 := blk_frozen BK122.out 2; have hcz10_0 : w4.cell? ⟨gb121, 0, none⟩ = some (.int .u8 0) := (blk_cell BK121.out 0).trans rfl; have hcz10_1 : w4.cell? ⟨gb121, 1, none⟩ = some (.int .u8 0) := (blk_cell BK121.out 1).trans rfl; have hcz10_2 : w4.cell? ⟨gb121, 2, none⟩ = some (.int .i8 0) := (blk_cell BK121.out 2).trans rfl; have hfz10_0 := blk_frozen BK121.out 0; have hfz10_1 := blk_frozen BK121.out 1; have hfz10_2 := blk_frozen BK121.out 2))
 refine bodyPost_ret (results_cell_row rfl _ _ gb121 137 #[.int .u8 F0, .int .u8 F1, .int .i8 F2] (0, 0) _ rfl (by (with_reducible repeat (first | refine blk_drewN ?_ _ | refine blk_drew ?_ | refine blk_alloc ?_ _)); refine blk_put (cs := #[.int .u8 F0, .int .u8 F1, .int .i8 0]) ?_ 2 _ rfl; (with_reducible repeat (first | refine blk_drewN ?_ _ | refine blk_drew ?_ | refine blk_alloc ?_ _)); refine blk_put (cs := #[.int .u8 F0, .int .u8 0, .int .i8 0]) ?_ 1 _ rfl; (with_reducible repeat (first | refine blk_drewN ?_ _ | refine blk_drew ?_ | refine blk_alloc ?_ _)); refine blk_put (cs := #[.int .u8 0, .int .u8 0, .int .i8 0]) ?_ 0 _ rfl; (with_reducible repeat (first | refine blk_drewN ?_ _ | refine blk_drew ?_ | refine blk_alloc ?_ _)); refine blk_far ?_ NB121_122.out _; (with_reducible repeat (first | refine blk_drewN ?_ _ | refine blk_drew ?_ | refine blk_alloc ?_ _)); refine blk_far ?_ NB121_122.out _; (with_reducible repeat (first | refine blk_drewN ?_ _ | refine blk_drew ?_ | refine blk_alloc ?_ _)); refine blk_far ?_ NB121_122.out _; (with_reducible repeat (first | refine blk_drewN ?_ _ | refine blk_drew ?_ | refine blk_alloc ?_ _)); exact BK121.out) Tryd.underlying137 rfl (by kernel_rfl)) rfl ?_
 exact ⟨by first | rfl | (simp [errW_none, errW_some] <;> rfl) | (simp [*, errW_none, errW_some] <;> rfl), by repeat (first | (with_reducible first | exact HB.out | apply bwA | apply pwN | apply bw1 | refine below_set ?_ GE120.out | refine below_set ?_ GE121.out | refine below_set ?_ GE122.out) | exact HB.out)⟩
def laws_toPairS.l0 : Nat → List (S139) → List (S137) → Int → Option ((List (S137)))
 | 0, _, _, _ => none
 | k + 1, x0, x3, x4 => if x4 < (x0.length : Int) then (if 0 ≤ x4 then ((laws_toPair.f ((rd_T139 x0 x4).f0) ((rd_T139 x0 x4).f1) ((rd_T139 x0 x4).f2)).bind fun bt127 => (if x4 < (x3.length : Int) then (laws_toPairS.l0 k x0 (x3.set (x4 : Int).toNat (⟨bt127.1, bt127.2.1, bt127.2.2⟩ : S137)) (wrap64 (x4 + 1))) else (none))) else (none)) else (some x3)
def laws_toPairS.f (k : Nat) (l0 : List (S139)) : Option ((List (S137))) := if 0 ≤ (l0.length : Int) then (if ((l0.length : Int) : Int).toNat ≤ 93824992236885 then (laws_toPairS.l0 k l0 (List.replicate ((l0.length : Int) : Int).toNat z137) 0) else (none)) else (none)
set_option maxHeartbeats 8000000 in
set_option maxRecDepth 100000 in
theorem laws_toPairS.calls (k : Nat) (A0 : Option Addr) (c0 : Nat) (l0 : List (S139)) (r : List (S137)) (w : World) (hr0 : Kd.C k139 w A0 l0.length l0) (hc0 : l0.length ≤ c0) (h : laws_toPairS.f k l0 = some r) :
  Calls Tryd.prog 67 #[.slice A0 l0.length c0] w fun e w' => ∃ v0_ : Value, e = .returned (v0_) ∧ Kd.R k137 137 w' w.heap.size (fun _ => True) v0_ r ∧ Below w.heap.size w w' := by
 have hu139 := Tryd.underlying139
 have hu137 := Tryd.underlying137
 have HR0 := Aside0.mk hr0
 have HC0 := Aside0.mk hc0
 clear hr0 hc0
 have HB := Aside0.mk (Below.refl w.heap.size w)
 have H : (if 0 ≤ (l0.length : Int) then (if ((l0.length : Int) : Int).toNat ≤ 93824992236885 then (laws_toPairS.l0 k l0 (List.replicate ((l0.length : Int) : Int).toNat z137) 0) else (none)) else (none)) = some r := h
 clear h
 by_cases c2 : 0 ≤ (l0.length : Int)
 ·rw [if_pos c2] at H
  have c2b0 := eq_true c2
  have c2b1 : decide (0 ≤ (l0.length : Int)) = true := decide_eq_true c2
  clear c2
  by_cases c3 : ((l0.length : Int) : Int).toNat ≤ 93824992236885
  ·rw [if_pos c3] at H
   have c3b0 := eq_true c3
   have c3b1 : decide (((l0.length : Int) : Int).toNat ≤ 93824992236885) = true := decide_eq_true c3
   clear c3
   obtain ⟨y123, hy123⟩ : ∃ y_ : List (S137), y_ = (List.replicate ((l0.length : Int) : Int).toNat z137) := ⟨_, rfl⟩
   replace H : (laws_toPairS.l0 k l0 y123 0) = some r := by first | (rw [hy123]; with_reducible exact H) | (have H2_ := (Option.bind_some _ _).symm.trans H; rw [hy123]; with_reducible exact H2_) | (have H2_ := (Option.bind_some _ _).symm.trans H; with_reducible exact H2_) | with_reducible exact H | (rw [hy123]; exact H) | exact H
   have Ny123 := Aside0.mk hy123
   clear hy123
   have H' := Aside0.mk H
   clear H
   go_enter Tryd.func67, Tryd.ntmps67
   go_wp2_with (first | ((with_reducible refine gate_dst (N := 7) rfl ?_); refine Kd.R_make k137 _ 137 rfl (N := 7) rfl 30 _ _ rfl (l0.length : Int) rfl rfl Tryd.underlying30 (.agg #[(.int .u8 0), (.int .u8 0), (.int .i8 0)]) 3 info137 rfl (by decide) (by omega) z137 (ok := fun _ => True) (okp := fun _ => True) (k137_mkM _ _ _ z137 ) (fun _ hk => hk) trivial (of_decide_eq_true (by first | (with_reducible assumption) | assumption)) (Nat.le_trans (Nat.mul_le_mul_right _ (of_decide_eq_true (by first | (with_reducible assumption) | assumption) : (l0.length : Int).toNat ≤ 93824992236885)) (by omega)) (Below.refl _ _) (Nat.le_refl _) ?_; intro v124 w4 ho5 hb hg_ hnew_; clear hg_ hnew_; (first | rw [← Ny123.out] at ho5 | (simp only [Int.reduceToNat] at ho5; rw [← Ny123.out] at ho5)); have n0_ := Aside0.mk (Kd.R_lower ho5 (below_size (by repeat (first | (with_reducible first | exact HB.out | apply bwA | apply pwN | apply bw1) | exact HB.out)))); have n1_ := Aside0.mk (below_step (by repeat (first | (with_reducible first | exact HB.out | apply bwA | apply pwN | apply bw1) | exact HB.out)) hb); clear HB; have HO125 := n0_; have HB := n1_; clear n0_ n1_; clear hb ho5))
   go_loopg [4] k (fun kq v4 w' => ∃ (x3_1 : List (S137)) (x4_1 : Int), v4 = .int .i64 x4_1 ∧ Aside0 (laws_toPairS.l0 kq l0 x3_1 x4_1 = some r) ∧ Aside0 (kq ≤ k) ∧ Aside0 (Kd.R k137 137 w' w.heap.size (fun _ => True) v124 x3_1) ∧ Aside0 (Below w.heap.size w w'))
   case atStart => exact ⟨(y123), (0), (by first | rfl | (simp; done) | (simp [*]; done)), H', ⟨Nat.le_refl _⟩, ⟨by (with_reducible repeat (first | apply Kd.R_alloc | apply Kd.R_drewN | apply Kd.R_drew)); exact HO125.out⟩, ⟨by repeat (first | (with_reducible first | exact HB.out | apply bwA | apply pwN | apply bw1) | exact HB.out)⟩⟩
   case round =>
    clear H'
    try clear c2
    try clear c2b0
    try clear c2b1
    try clear p2
    try clear c3
    try clear c3b0
    try clear c3b1
    obtain ⟨x3_1, x4_1, rfl, HA, HK1, HO_3, HB⟩ := hrel
    cases gk with
    | zero => exact absurd HA.out (by simp [laws_toPairS.l0])
    | succ k1 =>
     have H := HA.out
     clear HA
     simp only [laws_toPairS.l0] at H
     by_cases c6 : x4_1 < (l0.length : Int)
     ·rw [if_pos c6] at H
      have c6b0 : decide (x4_1 < (l0.length : Int)) = true := decide_eq_true c6
      clear c6
      by_cases c7 : 0 ≤ x4_1
      ·rw [if_pos c7] at H
       have c7b0 : decide (0 ≤ x4_1) = true := decide_eq_true c7
       clear c7
       replace H := Option.bind_eq_some_iff.mp H
       obtain ⟨⟨t127, t128, t129⟩, A80, H⟩ := H
       (try dsimp only at H)
       have A8 := Aside0.mk A80
       clear A80
       by_cases c9 : x4_1 < (x3_1.length : Int)
       ·rw [if_pos c9] at H
        have c9b0 : decide (x4_1 < (x3_1.length : Int)) = true := decide_eq_true c9
        clear c9
        obtain ⟨y130, hy130⟩ : ∃ y_ : List (S137), y_ = (x3_1.set (x4_1 : Int).toNat (⟨t127, t128, t129⟩ : S137)) := ⟨_, rfl⟩
        replace H : (laws_toPairS.l0 k1 l0 y130 (wrap64 (x4_1 + 1))) = some r := by first | (rw [hy130]; with_reducible exact H) | (have H2_ := (Option.bind_some _ _).symm.trans H; rw [hy130]; with_reducible exact H2_) | (have H2_ := (Option.bind_some _ _).symm.trans H; with_reducible exact H2_) | with_reducible exact H | (rw [hy130]; exact H) | exact H
        have Ny130 := Aside0.mk hy130
        clear hy130
        have H' := Aside0.mk H
        clear H
        have p126 : 0 ≤ (x4_1 : Int) := of_decide_eq_true (by first | (with_reducible assumption) | assumption)
        have q126 : x4_1 < (l0.length : Int) := of_decide_eq_true (by first | (with_reducible assumption) | assumption)
        obtain ⟨ad126, e126, hx126_0, hx126_1, hx126_2⟩ := at_T139 HR0.out x4_1 p126 q126
        cases e126
        replace hx126_0 := (HB.out.cell (World.block_lt_of_cell? w _ hx126_0)).trans hx126_0
        replace hx126_1 := (HB.out.cell (World.block_lt_of_cell? w _ hx126_1)).trans hx126_1
        replace hx126_2 := (HB.out.cell (World.block_lt_of_cell? w _ hx126_2)).trans hx126_2
        replace p126 := eq_true p126
        replace q126 := eq_true q126
        go_wp2_with (first | ((with_reducible refine gate_callee (f := 120) rfl ?_); refine goesL_ (some 20) rfl rfl Tryd.func120 (by kernel_rfl) rfl #[.agg #[.int .u8 ((rd_T139 l0 x4_1).f0), .int .u8 ((rd_T139 l0 x4_1).f1), .int .i8 ((rd_T139 l0 x4_1).f2)]] rfl (by (try simp only [List.map_toArray, List.map_cons, List.map_nil]); first | done | rfl | (simp only [List.length_drop, List.length_take]; rfl)) ?_; (with_reducible refine (laws_toPair.calls ((rd_T139 l0 x4_1).f0) ((rd_T139 l0 x4_1).f1) ((rd_T139 l0 x4_1).f2) t127 t128 t129 _ A8.out).mono ?_); rintro e w11 ⟨rfl, hb⟩; refine ⟨_, rfl, ?_⟩; have n0_ := Aside0.mk (Kd.R_below (by (with_reducible repeat (first | apply Kd.R_alloc | apply Kd.R_drewN | apply Kd.R_drew)); exact HO_3.out) hb); have n1_ := Aside0.mk (below_step (by repeat (first | (with_reducible first | exact HB.out | apply bwA | apply pwN | apply bw1) | exact HB.out)) hb); clear HO_3; clear HB; have HO_3 := n0_; have HB := n1_; clear n0_ n1_; (try clear hb); (try clear hb2); (try clear hk); (try clear hi); have p10 : 0 ≤ (x4_1 : Int) := of_decide_eq_true (by first | (with_reducible assumption) | assumption); have q10 : (x4_1 : Int) < ((x3_1.length : Int) : Int) := of_decide_eq_true (by first | (with_reducible assumption) | assumption); obtain ⟨go10, co10, eo10, gb10, gl10, cl10, HG10⟩ := Kd.R_form HO_3.out (by omega); (first | cases eo10 | (injection eo10 with ea_ en_ ec_; (first | subst ea_ | (injection ea_ with ea_; subst ea_)); subst ec_; clear en_)); have GB10 := Aside0.mk gb10; have GG10 := Aside0.mk HG10; clear gb10 gl10 HG10; obtain ⟨ce10, hcl10, hM10, hcc10, hfr10⟩ := Kd.R_elem HO_3.out z137 (x4_1 : Int) p10 q10; obtain rfl := k137_openM hM10; have hx10_0 : w11.cell? ⟨go10, (x4_1 : Int).toNat * 3, none⟩ = some (.int .u8 ((rd_T137 x3_1 x4_1).f0)) := hcc10 0 _ rfl; have hx10_1 : w11.cell? ⟨go10, (x4_1 : Int).toNat * 3 + 1, none⟩ = some (.int .u8 ((rd_T137 x3_1 x4_1).f1)) := hcc10 1 _ rfl; have hx10_2 : w11.cell? ⟨go10, (x4_1 : Int).toNat * 3 + 2, none⟩ = some (.int .i8 ((rd_T137 x3_1 x4_1).f2)) := hcc10 2 _ rfl; have hf10_0 : w11.frozen? ⟨go10, (x4_1 : Int).toNat * 3, none⟩ = false := hfr10 0; have hf10_1 : w11.frozen? ⟨go10, (x4_1 : Int).toNat * 3 + 1, none⟩ = false := hfr10 1; have hf10_2 : w11.frozen? ⟨go10, (x4_1 : Int).toNat * 3 + 2, none⟩ = false := hfr10 2; clear hcl10 hcc10 hfr10 hM10; replace p10 := eq_true p10; replace q10 := eq_true q10; have HX12 := Aside0.mk (show Kd.R k137 137 w11 w.heap.size (fun _ => True) (.slice (some ⟨go10, 0, none⟩) x3_1.length co10) x3_1 from (by (with_reducible repeat (first | apply Kd.R_alloc | apply Kd.R_drewN | apply Kd.R_drew)); exact HO_3.out)); obtain ⟨ce12, hcl12, hM12, hcc12, hfr12⟩ := Kd.R_elem HX12.out z137 (x4_1 : Int) (of_decide_eq_true (by first | (with_reducible assumption) | assumption)) (by have h_ : (x4_1 : Int) < ((x3_1.length : Int) : Int) := of_decide_eq_true (by first | (with_reducible assumption) | assumption); first | exact h_ | (have e_ := (Kd.R_reads' HO_3.out).1; omega) | simpa using h_); obtain rfl := k137_openM hM12; have HP12 := Kd.R_seg HX12.out (x4_1 : Int) (of_decide_eq_true (by first | (with_reducible assumption) | assumption)) (by have h_ : (x4_1 : Int) < ((x3_1.length : Int) : Int) := of_decide_eq_true (by first | (with_reducible assumption) | assumption); first | exact h_ | (have e_ := (Kd.R_reads' HO_3.out).1; omega) | simpa using h_) (seg := [.int .u8 t127, .int .u8 t128, .int .i8 t129]) (j := 0) hcl12 hcc12 (show 3 ≤ 3 from by decide) (x' := (⟨t127, t128, t129⟩ : S137)) (k137_mkM _ _ _ (⟨t127, t128, t129⟩ : S137) ) (fun _ hk => hk); have hx12_0 := hcc12 0 _ rfl; (try simp only [show (k137).sz = 3 from rfl, Nat.mul_one, Nat.add_zero] at hx12_0); have hf12_0 := hfr12 0; (try simp only [show (k137).sz = 3 from rfl, Nat.mul_one, Nat.add_zero] at hf12_0); have hx12_1 := hcc12 1 _ rfl; (try simp only [show (k137).sz = 3 from rfl, Nat.mul_one, Nat.add_zero] at hx12_1); have hf12_1 := hfr12 1; (try simp only [show (k137).sz = 3 from rfl, Nat.mul_one, Nat.add_zero] at hf12_1); have hx12_2 := hcc12 2 _ rfl; (try simp only [show (k137).sz = 3 from rfl, Nat.mul_one, Nat.add_zero] at hx12_2); have hf12_2 := hfr12 2; (try simp only [show (k137).sz = 3 from rfl, Nat.mul_one, Nat.add_zero] at hf12_2); clear hcl12 hcc12 hfr12 hM12) | ((with_reducible refine gate_store (t := 137) (p := 21) rfl ?_); refine store_event (t := 137) (p := 21) (v := ?vo_w13) (w1 := (((w11.setCell ⟨go10, (x4_1 : Int).toNat * 3, none⟩ (.int .u8 t127)).setCell ⟨go10, (x4_1 : Int).toNat * 3 + 1, none⟩ (.int .u8 t128)).setCell ⟨go10, (x4_1 : Int).toNat * 3 + 2, none⟩ (.int .i8 t129))) ?hg ?ho ?hn ?hr ?_; (case ho => rfl); (case hg => rfl); (case hn => rfl); (case hr => first | (go_simp; done) | (go_simp; rfl)); intro w13 hw; have hg : w11.grownBy w13 (some go10) := (by rw [hw]; exact HP12.2); have hp_ : Kd.R k137 137 w13 w.heap.size (fun _ => True) (.slice (some ⟨go10, 0, none⟩) x3_1.length co10) y130 := (by rw [hw, Ny130.out]; exact HP12.1); clear HP12; have n0_ := Aside0.mk (hp_); have n1_ := Aside0.mk ((by rw [hw]; exact below_set (below_set (below_set (HB.out) GB10.out) GB10.out) GB10.out : Below w.heap.size w w13)); clear HO_3; clear HB; have HO_3 := n0_; have HB := n1_; clear n0_ n1_; clear hg hw hp_))
        go_roundg k1
        case measure => have := HK1.out; omega
        case rel => exact ⟨(y130), (wrap64 (x4_1 + 1)), (by first | rfl | (simp; done) | (simp [*]; done)), H', ⟨by have := HK1.out; omega⟩, ⟨by (with_reducible repeat (first | apply Kd.R_alloc | apply Kd.R_drewN | apply Kd.R_drew)); exact HO_3.out⟩, ⟨by repeat (first | (with_reducible first | exact HB.out | apply bwA | apply pwN | apply bw1) | exact HB.out)⟩⟩
       ·rw [if_neg c9] at H
        exact absurd H (by simp)
      ·rw [if_neg c7] at H
       exact absurd H (by simp)
     ·rw [if_neg c6] at H
      have c6b0 : decide (x4_1 < (l0.length : Int)) = false := decide_eq_false c6
      clear c6
      obtain rfl := Option.some.inj H
      go_wp2
      go_ret
      exact ⟨_, by first | rfl | (simp [errW_none, errW_some] <;> rfl) | (simp [*, errW_none, errW_some] <;> rfl), by (with_reducible repeat (first | apply Kd.R_alloc | apply Kd.R_drewN | apply Kd.R_drew)); exact HO_3.out, by repeat (first | (with_reducible first | exact HB.out | apply bwA | apply pwN | apply bw1) | exact HB.out)⟩
  ·rw [if_neg c3] at H
   exact absurd H (by simp)
 ·rw [if_neg c2] at H
  exact absurd H (by simp)
end Go.Proofs.YticjkfacdmmopaaDoor.Q
namespace Go.Proofs.YticjkfacdmmopaaDoor.Ext
open Go.RowKit Go.Proofs.YticjkfacdmmopaaDoor.Q Go.Proofs.YticjkfacdmmopaaDoor.Face Go.Proofs.YticjkfacdmmopaaDoorW.PrintWords Go.Proofs.YticjkfacdmmopaaDoorW.PrintLast Go.Proofs.YticjkfacdmmopaaDoorW.PrintMore
set_option linter.unusedVariables false
set_option linter.unusedSimpArgs false
theorem ev_store_part {P : Program} {ops : Array Oper} {rest : List Oper} {o : Oper} {a : Act} {Q : Exit → Act → World → Prop} {W : World} (hgd : o.guard = none) (ty : TypeId) (x y : Operand) (ho : o.op = .store ty x y) (hN : o.dst = none)
  (g off : Nat) (cs vs : Array Value) (hx : a.eval x = .pointer (some ⟨g, off, none⟩)) (hy : a.eval y = .agg vs) (t : TypeId) (hg : W.heap[g]? = some (.cells cs t (0, 0))) (hi : (P.info? ty).map (·.size) = some vs.size) (hfit : off + vs.size ≤ cs.size)
  (h1 : ∀ v ∈ vs.toList, v.oneCell' = true)
  (h : ∀ w1, w1.heap[g]? = some (.cells ((cs.toList.take off ++ vs.toList ++ cs.toList.drop (off + vs.size)).toArray) t (0, 0)) → Kept W w1 (fun k => k = g) → (∀ B, B ≤ g → Below B W w1) → wpList P ops Q rest a w1) : wpList P ops Q (o :: rest) a W := by
 have hst := run_storeCells_at P g off t vs.toList 0 cs W hg (by simpa using hfit) h1
 have hrun : (storeVar ty ⟨g, off, none⟩ (.agg vs)).run P W = .ok () (W.setRow g ((cs.toList.take off ++ vs.toList ++ cs.toList.drop (off + vs.size)).toArray)) := by
  cases hq : P.info? ty with
  | none => simp [hq] at hi
  | some i =>
   have hs : vs.size = i.size := by simp [hq] at hi; omega
   simp only [Nat.add_zero, Array.length_toList] at hst
   simp [storeVar, sizeOf, typeInfo, hq, Value.cells, hs, hst]
 refine wpList_plain hgd fun K hK => ?_
 unfold Oper.wp execOp
 simp only [ho, hx, hy, Instr.storeAt, Instr.sureAddr, Sem.run_bind, Sem.run_pure, Result.andThen_ok, hrun]
 refine hK _ _ ?_
 have e : a.put o.dst undef = a := by rw [hN]; rfl
 rw [e]
 refine h _ (setRow_heap W g cs _ t (0, 0) hg) ⟨by simp, fun i hi hn => setRow_other W g i _ hn⟩ (fun B hB => ⟨rfl, rfl, rfl, by simp, fun k hk => setRow_other W g k _ (by omega)⟩)
theorem range_faceT {w : World} {g : Nat} {t : TypeId} {l : List Int} {A : Option Addr} {n c : Nat} (h : w.heap[g]? = some (.cells (faceV l A n c) t (0, 0))) (m : Nat) (hm : m ≤ l.length) : w.rangeAt g 0 (nums .i8 (l.take m)) := by
 intro j v hv
 have hj : j < (nums .i8 (l.take m)).length := (List.getElem?_eq_some_iff.1 hv).1
 have hj' : j < m := by simp [nums] at hj; omega
 rw [Nat.zero_add, face_cell h j (by omega), ← hv]
 simp only [nums, List.getElem?_map, List.getElem?_take, hj', if_true, List.getElem?_eq_getElem (show j < l.length by omega), Option.map_some, rd, Int.toNat_natCast, List.getD_eq_getElem?_getD, Option.getD_some]
theorem cellFT {w : World} {g : Nat} {t : TypeId} {l : List Int} {A : Option Addr} {n c : Nat} (h : w.heap[g]? = some (.cells (faceV l A n c) t (0, 0))) (j : Nat) (hj : j < l.length) {x : Int} (hx : rd l j = x) : w.cell? ⟨g, j, none⟩ = some (.int .i8 x) := by
 rw [← hx]; exact face_cell h j hj
theorem info_26T : (Tryd.prog.info? 23).map (·.size) = some 26 := by kernel_rfl
theorem info_faceT : (Tryd.prog.info? 32).map (·.size) = some 29 := by kernel_rfl
def toP (p : LP) : Pr := ⟨p.f0, p.f1, p.f2⟩
theorem rd_take_succ {α : Type} (l : List α) (n : Nat) (d : α) (h : n < l.length) : l.take (n + 1) = l.take n ++ [l.getD n d] := by
 rw [List.take_succ_eq_append_getElem h, List.getD_eq_getElem?_getD, List.getElem?_eq_getElem h]
 rfl
theorem toPairS_l0 (l : List LP) (hl : l.length ≤ 4611686018427387904) : ∀ (d k n : Nat) (x : List Pr), n + d = l.length → d < k → x.length = l.length → x.take n = (l.take n).map toP →
  laws_toPairS.l0 k l x n = some (l.map toP)
 | 0, k, n, x, hd, hk, hx, ht => by
  obtain ⟨k, rfl⟩ : ∃ m, k = m + 1 := ⟨k - 1, by omega⟩
  simp only [laws_toPairS.l0]
  rw [if_neg (by omega)]
  obtain rfl : n = l.length := by omega
  rw [List.take_length, ← hx, List.take_length] at ht
  rw [ht]
 | d + 1, k, n, x, hd, hk, hx, ht => by
  obtain ⟨k, rfl⟩ : ∃ m, k = m + 1 := ⟨k - 1, by omega⟩
  simp only [laws_toPairS.l0, laws_toPair.f, Option.bind_some]
  have hw : wrap64 ((n : Int) + 1) = ((n + 1 : Nat) : Int) := by unfold wrap64; omega
  rw [if_pos (by omega), if_pos (by omega), if_pos (by omega), hw]
  refine toPairS_l0 l hl d k (n + 1) _ (by omega) (by omega) (by simpa using hx) ?_
  have hset : (x.set (n : Int).toNat (⟨(rd_T139 l n).f0, (rd_T139 l n).f1, (rd_T139 l n).f2⟩ : Pr)).take (n + 1) = x.take n ++ [⟨(rd_T139 l n).f0, (rd_T139 l n).f1, (rd_T139 l n).f2⟩] := by
   rw [Int.toNat_natCast, List.take_succ_eq_append_getElem (by simp; omega), List.take_set, List.set_eq_of_length_le (by simp; omega)]
   simp
  rw [hset, ht, rd_take_succ l n z139 (by omega), List.map_append]
  rfl
theorem toPairS_eq (l : List LP) (hl : l.length ≤ 1048576) : laws_toPairS.f (l.length + 1) l = some (l.map toP) := by
 unfold laws_toPairS.f
 rw [if_pos (by omega), if_pos (by omega)]
 exact toPairS_l0 l (by omega) l.length _ 0 _ (by omega) (by omega) (by simp) (by simp)
theorem cell_push {w : World} {g : Nat} {t : TypeId} {l : List Int} {v : Value} (h : w.heap[g]? = some (.cells ((cellsK .i8 l).push v) t (0, 0))) (j : Nat) (hj : j < l.length) : w.cell? ⟨g, j, none⟩ = some (.int .i8 (rd l j)) := by
 rw [blk_cell h j, Array.getElem?_push_lt (by rw [cellsK_size]; exact hj)]
 have h2 := cellsK_get .i8 l j hj
 rw [Array.getElem?_eq_getElem (by rw [cellsK_size]; exact hj)] at h2
 exact h2
theorem cell_push_last {w : World} {g m : Nat} {t : TypeId} {l : List Int} {v : Value} (h : w.heap[g]? = some (.cells ((cellsK .i8 l).push v) t (0, 0))) (hm : l.length = m) : w.cell? ⟨g, m, none⟩ = some v := by
 rw [blk_cell h m]
 subst hm
 rw [← cellsK_size .i8 l]
 exact Array.getElem?_push_size
theorem put26 (l : List Int) (h : l.length = 26) : ((faceV (List.replicate 28 0) none 0 0).toList.take 0 ++ (cellsK .i8 l).toList ++ (faceV (List.replicate 28 0) none 0 0).toList.drop (0 + (cellsK .i8 l).size)).toArray = (cellsK .i8 (l ++ [0, 0])).push (.slice none 0 0) := by
 rw [cellsK_size, h]
 apply Array.toList_inj.1
 rw [Array.toList_push]
 simp [cellsK, nums]
 rfl
theorem set2 (l : List Int) (h : l.length = 26) (a b : Int) (s : Value) : (((cellsK .i8 (l ++ [0, 0])).push s).setIfInBounds 26 (.int .i8 a)).setIfInBounds 27 (.int .i8 b) = (cellsK .i8 (l ++ [a, b])).push s := by
 apply Array.toList_inj.1
 simp only [Array.toList_setIfInBounds, Array.toList_push, cellsK, nums, List.map_append, List.map_cons, List.map_nil]
 rw [List.append_assoc, List.set_append_right _ _ (by simp; omega)]
 rw [List.set_append_right _ _ (by simp; omega)]
 simp [h]
theorem set28 (l : List Int) (h : l.length = 28) (s v : Value) : ((cellsK .i8 l).push s).setIfInBounds 28 v = (cellsK .i8 l).push v := by
 apply Array.toList_inj.1
 simp only [Array.toList_setIfInBounds, Array.toList_push, cellsK, nums]
 rw [List.set_append_right _ _ (by simp; omega)]
 simp [h]
theorem push_one {v : Value} (h : v.oneCell' = true) (L : List Int) : ((cellsK .i8 L).push v).all (·.oneCell') = true := by
 have h1 := cellsK_one .i8 L
 rw [Array.all_eq_true_iff_forall_mem] at h1 ⊢
 intro x hx
 rw [Array.mem_push] at hx
 rcases hx with hx | rfl
 ·exact h1 x hx
 ·exact h
set_option maxRecDepth 100000 in
set_option maxHeartbeats 2000000 in
theorem toFace_calls (L : List Int) (hL : L.length = 28) (A : Option Addr) (c : Nat) (P : List LP) (hP : P.length ≤ 1048576) (hc : P.length ≤ c) (w : World) (hr : Kd.C kLP w A P.length P) :
  Calls Tryd.prog 20 #[.agg (faceV L A P.length c)] w fun e w' => ∃ v : Value, e = .returned (.agg ((cellsK .i8 L).push v)) ∧ Kd.R kPr 137 w' w.heap.size (fun _ => True) v (P.map toP) ∧ Below w.heap.size w w' := by
 obtain ⟨a, ha⟩ : ∃ a, rd L (26 : Nat) = a := ⟨_, rfl⟩
 obtain ⟨b, hbb⟩ : ∃ b, rd L (27 : Nat) = b := ⟨_, rfl⟩
 have hsplit : L.take 26 ++ [a, b] = L := by
  have h2 : L.drop 26 = [a, b] := by
   apply List.ext_getElem (by simp; omega)
   intro i h1 h2
   rw [List.getElem_drop]
   have h3 : i = 0 ∨ i = 1 := by simp at h2; omega
   rcases h3 with rfl | rfl
   ·simp [← ha, rd, List.getD_eq_getElem?_getD, List.getElem?_eq_getElem (show 26 < L.length by omega)]
   ·simp [← hbb, rd, List.getD_eq_getElem?_getD, List.getElem?_eq_getElem (show 27 < L.length by omega)]
  rw [← h2]
  exact List.take_append_drop 26 L
 have HS := Aside0.mk hsplit
 have HI : Aside0 ((Tryd.prog.info? 23).map (·.size) = some (nums .i8 (L.take 26)).length) := ⟨by rw [show (nums .i8 (L.take 26)).length = 26 by simp [nums]; omega]; exact info_26T⟩
 have HL := Aside0.mk hL
 have HR := Aside0.mk hr
 have HC := Aside0.mk hc
 have HPl := Aside0.mk hP
 have Ha := Aside0.mk ha
 have Hb := Aside0.mk hbb
 have H0 := Aside0.mk (blk_new w (.cells (faceV L A P.length c) 26))
 have HB := Aside0.mk (bwA (Below.refl w.heap.size w) (.cells (faceV L A P.length c) 26))
 clear ha hbb hL hr hc hP hsplit
 go_enter Tryd.func20, Tryd.ntmps20
 go_wp2_with (first | ((with_reducible refine gate_dst (N := 5) rfl ?_); refine wpList_load_mid rfl 23 (.tmp 4) rfl w.heap.size 0 rfl (nums .i8 (L.take 26)) _ (range_faceT (blk_alloc (blk_alloc H0.out _) _) 26 (by have := HL.out; omega)) Tryd.underlying23 rfl HI.out ?_) | fail)
 refine (laws_toInt8A26_calls (L.take 26) (by have := HL.out; simp; omega) _).mono ?_
 rintro e w1 ⟨rfl, hb1⟩
 replace HB := Aside0.mk (below_step (bwA (bwA HB.out _) _) hb1)
 have K0 := Aside0.mk (blk_below (blk_alloc (blk_alloc H0.out _) _) hb1)
 have K1 := Aside0.mk (show w1.heap[w.heap.size + 1]? = some (.cells (faceV (List.replicate 28 0) none 0 0) 32 (0, 0)) from blk_below (blk_alloc (blk_at (n := w.heap.size + 1) (by simp) _) _) hb1)
 have K2 := Aside0.mk (show w1.heap[w.heap.size + 2]? = some (.cells (faceV (List.replicate 28 0) none 0 0) 32 (0, 0)) from blk_below (blk_at (n := w.heap.size + 2) (by simp) _) hb1)
 clear H0 hb1
 go_wp2_with (first | ((with_reducible refine gate_store (t := 23) (p := 7) rfl ?_); refine ev_store_part rfl 23 (.tmp 7) (.tmp 6) rfl rfl (w.heap.size + 2) 0 (faceV (List.replicate 28 0) none 0 0) (cellsK .i8 (L.take 26)) rfl rfl _ K2.out (by have := HL.out; rw [cellsK_size, show (L.take 26).length = 26 by simp; omega]; exact info_26T) (by have := HL.out; rw [cellsK_size, faceV_size]; simp; omega) (fun v hv => Array.all_eq_true_iff_forall_mem.1 (cellsK_one .i8 _) v (by simpa using hv)) ?_; intro w2 hb2 hk2 hbel2; have M0 := Aside0.mk ((hk2.2 w.heap.size (blk_lt K0.out) (by omega)).trans K0.out); have M1 := Aside0.mk ((hk2.2 (w.heap.size + 1) (blk_lt K1.out) (by omega)).trans K1.out); have M2 := Aside0.mk hb2; have MB := Aside0.mk (HB.out.trans (hbel2 _ (by omega))); clear hb2 hk2 hbel2 K0 K1 K2 HB; rw [put26 _ (by have := HL.out; simp; omega)] at M2; have c0 := cellFT M0.out 26 (by have := HL.out; omega) Ha.out; have c1 := cellFT M0.out 27 (by have := HL.out; omega) Hb.out; have c2 := face_pairs M0.out HL.out; have f0 := blk_frozen M2.out 26; have f1 := blk_frozen M2.out 27; have d0 := cell_push M2.out 26 (by have := HL.out; simp; omega); have d1 := cell_push M2.out 27 (by have := HL.out; simp; omega)) | fail)
 refine (laws_toPairS.calls (P.length + 1) A c P (P.map toP) _ (Kd.C_below HR.out ((MB.out.setCell (by simp <;> omega) _).setCell (by simp <;> omega) _)) HC.out (toPairS_eq P HPl.out)).mono ?_
 rintro e w4 ⟨v, rfl, ho, hb4⟩
 have HB4 := Aside0.mk (below_step ((MB.out.setCell (by simp <;> omega) _).setCell (by simp <;> omega) _) hb4)
 have HO : Aside0 (Kd.R kPr 137 w4 w.heap.size (fun k => w.heap.size + 3 ≤ k) v (P.map toP)) := ⟨Kd.R_lower (Kd.R_mono (Kd.R_bound ho) (fun k hk => by have := MB.out.size; have := hk.2.1; have := blk_lt M2.out; simp at *; omega)) (by have := MB.out.size; simp; omega)⟩
 have N1 := Aside0.mk (blk_below (blk_far (blk_far M1.out (by simp <;> omega) _) (by simp <;> omega) _) hb4)
 have N2 := Aside0.mk (blk_below (blk_set (blk_set M2.out 26 (.int .i8 a)) 27 (.int .i8 b)) hb4)
 obtain ⟨A', c', rfl⟩ := Kd.R_slice HO.out
 have HN : Aside0 ((P.map toP).length = P.length) := ⟨by simp⟩
 generalize hnn : (P.map toP).length = nn at HO
 clear hnn HN
 have N3 : Aside0 (w4.heap[w.heap.size + 2]? = some (.cells ((cellsK .i8 L).push (.slice none 0 0)) 32 (0, 0))) := ⟨by
  have h := N2.out
  rw [set2 _ (by have := HL.out; simp; omega), HS.out] at h
  exact h⟩
 have HSZ : Aside0 ((Tryd.prog.info? 32).map (·.size) = some ((cellsK .i8 L).push (.slice A' nn c')).size) := ⟨by rw [Array.size_push, cellsK_size, HL.out]; exact info_faceT⟩
 have f28 := blk_frozen N3.out 28
 have d28 := cell_push_last N3.out HL.out
 clear M0 M1 M2 MB c0 c1 c2 f0 f1 d0 d1 ho hb4 N2
 go_wp2_with (first | ((with_reducible refine gate_dst (N := 18) rfl ?_); refine wpList_load_row rfl 32 (.tmp 3) rfl (w.heap.size + 2) rfl 32 ((cellsK .i8 L).push (.slice A' nn c')) (0, 0) _ (by have h := blk_set N3.out 28 (.slice A' nn c'); rw [set28 _ HL.out] at h; exact h) Tryd.underlying32 rfl HSZ.out ?_) | ((with_reducible refine gate_store (t := 32) (p := 2) rfl ?_); refine ev_store_row rfl 32 (.tmp 2) (.tmp 18) rfl rfl (w.heap.size + 1) ((cellsK .i8 L).push (.slice A' nn c')) rfl rfl _ _ (blk_far N1.out (by simp <;> omega) _) HSZ.out (by rw [Array.size_push, cellsK_size, faceV_size, HL.out]; simp) (push_one rfl L) ?_; intro w5 hb5 hk5 hbel5) | fail)
 refine bodyPost_ret (results_cell_row rfl _ _ (w.heap.size + 1) _ ((cellsK .i8 L).push (.slice A' nn c')) (0, 0) _ rfl hb5 Tryd.underlying32 rfl HSZ.out) rfl ⟨(.slice A' nn c'), rfl, ?_, ?_⟩
 ·exact Kd.R_mono (Kd.R_kept (Kd.R_far (p := ⟨w.heap.size + 2, 28, none⟩) HO.out (fun k hk => by show k ≠ w.heap.size + 2; omega) (.slice A' nn c')) hk5 (fun k hk e => by have e2 : k = w.heap.size + 1 := e; omega)) (fun _ _ => trivial)
 ·exact (HB4.out.setCell (by simp <;> omega) _).trans (hbel5 _ (by omega))
set_option maxRecDepth 100000
def laws_toFace.f (F0 F1 F2 F3 F4 F5 F6 F7 F8 F9 F10 F11 F12 F13 F14 F15 F16 F17 F18 F19 F20 F21 F22 F23 F24 F25 F26 F27 : Int) (l0_28 : List LP) : Option (Int × Int × Int × Int × Int × Int × Int × Int × Int × Int × Int × Int × Int × Int × Int × Int × Int × Int × Int × Int × Int × Int × Int × Int × Int × Int × Int × Int × List Pr) := if l0_28.length ≤ 1048576 then some (F0, F1, F2, F3, F4, F5, F6, F7, F8, F9, F10, F11, F12, F13, F14, F15, F16, F17, F18, F19, F20, F21, F22, F23, F24, F25, F26, F27, l0_28.map toP) else none
theorem laws_toFace.calls (F0 F1 F2 F3 F4 F5 F6 F7 F8 F9 F10 F11 F12 F13 F14 F15 F16 F17 F18 F19 F20 F21 F22 F23 F24 F25 F26 F27 : Int) (A0_28 : Option Addr) (c0_28 : Nat) (l0_28 : List LP) (r1 r2 r3 r4 r5 r6 r7 r8 r9 r10 r11 r12 r13 r14 r15 r16 r17 r18 r19 r20 r21 r22 r23 r24 r25 r26 r27 r28 : Int) (r29 : List Pr) (w : World) (hr0_28 : Kd.C kLP w A0_28 l0_28.length l0_28) (hc0_28 : l0_28.length ≤ c0_28) (h : laws_toFace.f F0 F1 F2 F3 F4 F5 F6 F7 F8 F9 F10 F11 F12 F13 F14 F15 F16 F17 F18 F19 F20 F21 F22 F23 F24 F25 F26 F27 l0_28 = some (r1, r2, r3, r4, r5, r6, r7, r8, r9, r10, r11, r12, r13, r14, r15, r16, r17, r18, r19, r20, r21, r22, r23, r24, r25, r26, r27, r28, r29)) :
  Calls Tryd.prog 20 #[.agg #[.int .i8 F0, .int .i8 F1, .int .i8 F2, .int .i8 F3, .int .i8 F4, .int .i8 F5, .int .i8 F6, .int .i8 F7, .int .i8 F8, .int .i8 F9, .int .i8 F10, .int .i8 F11, .int .i8 F12, .int .i8 F13, .int .i8 F14, .int .i8 F15, .int .i8 F16, .int .i8 F17, .int .i8 F18, .int .i8 F19, .int .i8 F20, .int .i8 F21, .int .i8 F22, .int .i8 F23, .int .i8 F24, .int .i8 F25, .int .i8 F26, .int .i8 F27, .slice A0_28 l0_28.length c0_28]] w fun e w' => ∃ v28_ : Value, e = .returned (.agg #[.int .i8 r1, .int .i8 r2, .int .i8 r3, .int .i8 r4, .int .i8 r5, .int .i8 r6, .int .i8 r7, .int .i8 r8, .int .i8 r9, .int .i8 r10, .int .i8 r11, .int .i8 r12, .int .i8 r13, .int .i8 r14, .int .i8 r15, .int .i8 r16, .int .i8 r17, .int .i8 r18, .int .i8 r19, .int .i8 r20, .int .i8 r21, .int .i8 r22, .int .i8 r23, .int .i8 r24, .int .i8 r25, .int .i8 r26, .int .i8 r27, .int .i8 r28, v28_]) ∧ Kd.R kPr 137 w' w.heap.size (fun _ => True) v28_ r29 ∧ Below w.heap.size w w' := by
 unfold laws_toFace.f at h
 split at h
 ·rename_i hn
  simp only [Option.some.injEq, Prod.mk.injEq] at h
  obtain ⟨rfl, rfl, rfl, rfl, rfl, rfl, rfl, rfl, rfl, rfl, rfl, rfl, rfl, rfl, rfl, rfl, rfl, rfl, rfl, rfl, rfl, rfl, rfl, rfl, rfl, rfl, rfl, rfl, rfl⟩ := h
  exact toFace_calls [F0, F1, F2, F3, F4, F5, F6, F7, F8, F9, F10, F11, F12, F13, F14, F15, F16, F17, F18, F19, F20, F21, F22, F23, F24, F25, F26, F27] rfl A0_28 c0_28 l0_28 hn hc0_28 w hr0_28
 ·cases h
theorem take_ne {l m : List Int} {n : Nat} (h1 : n < l.length) (h2 : n < m.length) (h : rd l n ≠ rd m n) : l ≠ m := by
 rintro rfl
 exact h rfl
theorem take_step {l m : List Int} {n : Nat} (h1 : n < l.length) (h2 : n < m.length) (h : rd l n = rd m n) (ht : l.take n = m.take n) : l.take (n + 1) = m.take (n + 1) := by
 rw [List.take_succ_eq_append_getElem h1, List.take_succ_eq_append_getElem h2, ht]
 congr 2
 unfold rd at h
 rw [Int.toNat_natCast, List.getD_eq_getElem?_getD, List.getD_eq_getElem?_getD, List.getElem?_eq_getElem h1, List.getElem?_eq_getElem h2] at h
 exact h
set_option maxHeartbeats 2000000 in
theorem eqInt8A26_calls (l m : List Int) (hl : l.length = 26) (hm : m.length = 26) (w : World) :
  Calls Tryd.prog 71 #[.agg (cellsK .i8 l), .agg (cellsK .i8 m)] w fun e w' => e = .returned (.bool (decide (l = m))) ∧ Below w.heap.size w w' := by
 obtain ⟨X, hX⟩ : ∃ X, X = cellsK .i8 l := ⟨_, rfl⟩
 obtain ⟨Y, hY⟩ : ∃ Y, Y = cellsK .i8 m := ⟨_, rfl⟩
 rw [← hX, ← hY]
 have HX := Aside0.mk hX
 have HY := Aside0.mk hY
 have HL := Aside0.mk hl
 have HM := Aside0.mk hm
 clear hX hY hl hm
 go_enter Tryd.func71, Tryd.ntmps71
 go_wp2
 go_loopw [5] (fun i wr => ∃ n : Nat, n ≤ 26 ∧ i = .int .i64 n ∧ Aside0 (wr.heap[w.heap.size]? = some (.cells X 23 (0, 0))) ∧ Aside0 (wr.heap[w.heap.size + 1]? = some (.cells Y 23 (0, 0))) ∧ Aside0 (Below w.heap.size w wr) ∧ Aside0 (l.take n = m.take n)) (fun i _ => 26 - (intOf i).toNat)
 case atStart =>
  refine ⟨0, by omega, rfl, ⟨?_⟩, ⟨?_⟩, ⟨?_⟩, ⟨rfl⟩⟩
  ·exact blk_alloc (blk_new w _) _
  ·exact blk_at (by simp) _
  ·exact ((Below.refl _ _).alloc (Nat.le_refl _) _).alloc (by simp) _
 case round =>
  obtain ⟨n, hn, rfl, H0, H1, HB, HE⟩ := hrel
  by_cases hlt : n < 26
  ·have hltz : (n : Int) < 26 := by omega
   have c0 : wr.cell? ⟨w.heap.size, n, none⟩ = some (.int .i8 (rd l n)) := cellsK_cell (k := .i8) (l := l) (by rw [← HX.out]; exact H0.out) n (by have := HL.out; omega)
   have c1 : wr.cell? ⟨w.heap.size + 1, n, none⟩ = some (.int .i8 (rd m n)) := cellsK_cell (k := .i8) (l := m) (by rw [← HY.out]; exact H1.out) n (by have := HM.out; omega)
   obtain ⟨x, hx⟩ : ∃ x, rd l n = x := ⟨_, rfl⟩
   obtain ⟨y, hy⟩ : ∃ y, rd m n = y := ⟨_, rfl⟩
   rw [hx] at c0
   rw [hy] at c1
   have Hx := Aside0.mk hx
   have Hy := Aside0.mk hy
   clear hx hy
   cases hq : (x == y)
   ·have hq2 : (x != y) = true := by rw [bne, hq]; rfl
    have HQ := Aside0.mk hq
    go_wp2_with fail
    repeat (go_quiet (fail); try go_wp2)
    go_ret
    refine ⟨?_, (by repeat (first | exact HB.out | apply bwA | apply pwN | apply bw1))⟩
    rw [decide_eq_false (take_ne (n := n) (by have := HL.out; omega) (by have := HM.out; omega) (by rw [Hx.out, Hy.out]; simpa using HQ.out))]
    rfl
   ·have hq2 : (x != y) = false := by rw [bne, hq]; rfl
    have HQ := Aside0.mk hq
    go_wp2_with fail
    repeat (go_quiet (fail); try go_wp2)
    go_roundw
    case rel => exact ⟨n + 1, by omega, by go_num, ⟨by repeat (first | exact H0.out | apply blk_drewN | apply blk_drew)⟩, ⟨by repeat (first | exact H1.out | apply blk_drewN | apply blk_drew)⟩, ⟨by repeat (first | exact HB.out | apply bwA | apply pwN | apply bw1)⟩, ⟨take_step (by have := HL.out; omega) (by have := HM.out; omega) (by rw [Hx.out, Hy.out]; simpa using HQ.out) HE.out⟩⟩
    case measure => simp [intOf]; omega
  ·have hltz : ¬ (n : Int) < 26 := by omega
   obtain rfl : n = 26 := by omega
   go_wp2
   go_ret
   refine ⟨?_, HB.out⟩
   have e : l = m := by
    have h := HE.out
    rwa [List.take_of_length_le (by have := HL.out; omega), List.take_of_length_le (by have := HM.out; omega)] at h
   rw [decide_eq_true e]
   rfl
end Go.Proofs.YticjkfacdmmopaaDoor.Ext
namespace Go.Proofs.YticjkfacdmmopaaDoor.Q
open Go.Proofs.YticjkfacdmmopaaDoor.Ext
open Go.RowKit Go.Proofs.YticjkfacdmmopaaDoorW.PrintWords Go.Proofs.YticjkfacdmmopaaDoorW.PrintLast Go.Proofs.YticjkfacdmmopaaDoorW.PrintMore
attribute [local go_sem] max2_int min2_int max_two min_two max_three min_three max_four min_four
set_option linter.unusedVariables false
set_option linter.unusedSimpArgs false
def laws_eqPairS.l0 : Nat → List (S137) → List (S137) → Int → Option (Bool)
 | 0, _, _, _ => none
 | k + 1, x0, x1, x5 => if x5 < (x0.length : Int) then (if 0 ≤ x5 then (if x5 < (x1.length : Int) then ((laws_eqPair.f ((rd_T137 x0 x5).f0) ((rd_T137 x0 x5).f1) ((rd_T137 x0 x5).f2) ((rd_T137 x1 x5).f0) ((rd_T137 x1 x5).f1) ((rd_T137 x1 x5).f2)).bind fun t182 => (if t182 = true then (laws_eqPairS.l0 k x0 x1 (wrap64 (x5 + 1))) else (some false))) else (none)) else (none)) else (some true)
def laws_eqPairS.f (k : Nat) (l0 : List (S137)) (l1 : List (S137)) : Option (Bool) := if (l0.length : Int) = (l1.length : Int) then (laws_eqPairS.l0 k l0 l1 0) else (some false)
def laws_eqPairS.T6 : Bool × List (List Nat × List Nat) := (true, [([], []), ([], []), ([0, 1], [0, 1]), ([2], [2]), ([], []), ([], []), ([4, 5], [4, 5]), ([6], [6]), ([3, 7], [3, 7]), ([8], [8])])
def laws_eqPairS.B6 : List Nat := [0, 0, 3, 7, 0, 0, 48, 112, 255, 511]
theorem laws_eqPairS.tab6 : rtab .any (opsOf Tryd.f72 6) = laws_eqPairS.T6 := by kernel_rfl
theorem laws_eqPairS.bits6 : waitsOk laws_eqPairS.T6.2 laws_eqPairS.B6 = true := by kernel_rfl
set_option maxHeartbeats 8000000 in
set_option maxRecDepth 100000 in
theorem laws_eqPairS.calls (k : Nat) (A0 : Option Addr) (c0 : Nat) (l0 : List (S137)) (A1 : Option Addr) (c1 : Nat) (l1 : List (S137)) (r : Bool) (w : World) (hr0 : Kd.C k137 w A0 l0.length l0) (hc0 : l0.length ≤ c0) (hr1 : Kd.C k137 w A1 l1.length l1) (hc1 : l1.length ≤ c1) (h : laws_eqPairS.f k l0 l1 = some r) :
  Calls Tryd.prog 72 #[.slice A0 l0.length c0, .slice A1 l1.length c1] w fun e w' => e = .returned (.bool r) ∧ Below w.heap.size w w' := by
 have hu137 := Tryd.underlying137
 have HR0 := Aside0.mk hr0
 have HC0 := Aside0.mk hc0
 clear hr0 hc0
 have HR1 := Aside0.mk hr1
 have HC1 := Aside0.mk hc1
 clear hr1 hc1
 have HB := Aside0.mk (Below.refl w.heap.size w)
 have H : (if (l0.length : Int) = (l1.length : Int) then (laws_eqPairS.l0 k l0 l1 0) else (some false)) = some r := h
 clear h
 by_cases c3 : (l0.length : Int) = (l1.length : Int)
 ·rw [if_pos c3] at H
  have c3b0 : ((l0.length : Int) == (l1.length : Int)) = true := beq_iff_eq.mpr c3
  have c3b1 : ((l0.length : Int) != (l1.length : Int)) = false := bne_eq_false_iff_eq.mpr c3
  have c3b2 : (l0.length == l1.length) = true := by first | simpa using c3 | (simp at c3 ⊢; omega)
  clear c3
  have H' := Aside0.mk H
  clear H
  go_enter Tryd.func72, Tryd.ntmps72
  go_wp2
  go_loopg [5] k (fun kq v5 w' => ∃ (x5_1 : Int), v5 = .int .i64 x5_1 ∧ Aside0 (laws_eqPairS.l0 kq l0 l1 x5_1 = some r) ∧ Aside0 (kq ≤ k) ∧ Aside0 (Below w.heap.size w w'))
  case atStart => exact ⟨(0), (by first | rfl | (simp; done) | (simp [*]; done)), H', ⟨Nat.le_refl _⟩, ⟨by repeat (first | (with_reducible first | exact HB.out | apply bwA | apply pwN | apply bw1) | exact HB.out)⟩⟩
  case round =>
   clear H'
   try clear c1
   try clear p2
   try clear c3
   try clear c3b0
   try clear c3b1
   try clear c3b2
   obtain ⟨x5_1, rfl, HA, HK1, HB⟩ := hrel
   cases gk with
   | zero => exact absurd HA.out (by simp [laws_eqPairS.l0])
   | succ k1 =>
    have H := HA.out
    clear HA
    simp only [laws_eqPairS.l0] at H
    by_cases c4 : x5_1 < (l0.length : Int)
    ·rw [if_pos c4] at H
     have c4b0 : decide (x5_1 < (l0.length : Int)) = true := decide_eq_true c4
     clear c4
     by_cases c5 : 0 ≤ x5_1
     ·rw [if_pos c5] at H
      have c5b0 : decide (0 ≤ x5_1) = true := decide_eq_true c5
      clear c5
      by_cases c6 : x5_1 < (l1.length : Int)
      ·rw [if_pos c6] at H
       have c6b0 : decide (x5_1 < (l1.length : Int)) = true := decide_eq_true c6
       clear c6
       replace H := Option.bind_eq_some_iff.mp H
       obtain ⟨t182, A70, H⟩ := H
       (try dsimp only at H)
       have A7 := Aside0.mk A70
       clear A70
       by_cases c8 : t182 = true
       ·subst c8
        rw [if_pos rfl] at H
        have H1 := H
        clear H
        have H := H1
        clear H1
        have H' := Aside0.mk H
        clear H
        try go_wp2
        have n0_ := Aside0.mk (bw1 HB.out)
        clear HB
        have HB := n0_
        clear n0_
        have p180 : 0 ≤ (x5_1 : Int) := of_decide_eq_true (by first | (with_reducible assumption) | assumption)
        have q180 : x5_1 < (l0.length : Int) := of_decide_eq_true (by first | (with_reducible assumption) | assumption)
        obtain ⟨ad180, e180, hx180_0, hx180_1, hx180_2⟩ := at_T137 HR0.out x5_1 p180 q180
        have hw180_2 := hx180_2
        have hw180_1 := hx180_1
        have hw180_0 := hx180_0
        cases e180
        replace hx180_0 := (HB.out.cell (World.block_lt_of_cell? w _ hx180_0)).trans hx180_0
        replace hx180_1 := (HB.out.cell (World.block_lt_of_cell? w _ hx180_1)).trans hx180_1
        replace hx180_2 := (HB.out.cell (World.block_lt_of_cell? w _ hx180_2)).trans hx180_2
        replace p180 := eq_true p180
        replace q180 := eq_true q180
        have p181 : 0 ≤ (x5_1 : Int) := of_decide_eq_true (by first | (with_reducible assumption) | assumption)
        have q181 : x5_1 < (l1.length : Int) := of_decide_eq_true (by first | (with_reducible assumption) | assumption)
        obtain ⟨ad181, e181, hx181_0, hx181_1, hx181_2⟩ := at_T137 HR1.out x5_1 p181 q181
        have hw181_2 := hx181_2
        have hw181_1 := hx181_1
        have hw181_0 := hx181_0
        cases e181
        replace hx181_0 := (HB.out.cell (World.block_lt_of_cell? w _ hx181_0)).trans hx181_0
        replace hx181_1 := (HB.out.cell (World.block_lt_of_cell? w _ hx181_1)).trans hx181_1
        replace hx181_2 := (HB.out.cell (World.block_lt_of_cell? w _ hx181_2)).trans hx181_2
        replace p181 := eq_true p181
        replace q181 := eq_true q181
        refine start_ (n := 10) (S := fun w' => w'.cell? (ad180.add ((x5_1).toNat * 3)) = some (.int .u8 ((rd_T137 l0 x5_1).f0)) ∧ w'.cell? ⟨(ad180.add ((x5_1).toNat * 3)).block, (ad180.add ((x5_1).toNat * 3)).off + 1, none⟩ = some (.int .u8 ((rd_T137 l0 x5_1).f1)) ∧ w'.cell? ⟨(ad180.add ((x5_1).toNat * 3)).block, (ad180.add ((x5_1).toNat * 3)).off + 2, none⟩ = some (.int .i8 ((rd_T137 l0 x5_1).f2)) ∧ w'.cell? (ad181.add ((x5_1).toNat * 3)) = some (.int .u8 ((rd_T137 l1 x5_1).f0)) ∧ w'.cell? ⟨(ad181.add ((x5_1).toNat * 3)).block, (ad181.add ((x5_1).toNat * 3)).off + 1, none⟩ = some (.int .u8 ((rd_T137 l1 x5_1).f1)) ∧ w'.cell? ⟨(ad181.add ((x5_1).toNat * 3)).block, (ad181.add ((x5_1).toNat * 3)).off + 2, none⟩ = some (.int .i8 ((rd_T137 l1 x5_1).f2))) (ds := []) #[false, false, false, false, false, false, false, false, false, false] (by kernel_rfl) rfl rfl ⟨((HB.out.cell (World.block_lt_of_cell? w _ hw180_0)).trans hw180_0), ((HB.out.cell (World.block_lt_of_cell? w _ hw180_1)).trans hw180_1), ((HB.out.cell (World.block_lt_of_cell? w _ hw180_2)).trans hw180_2), ((HB.out.cell (World.block_lt_of_cell? w _ hw181_0)).trans hw181_0), ((HB.out.cell (World.block_lt_of_cell? w _ hw181_1)).trans hw181_1), ((HB.out.cell (World.block_lt_of_cell? w _ hw181_2)).trans hw181_2)⟩ (fun hHeld => ?_); refine with_tabW laws_eqPairS.tab6 laws_eqPairS.bits6 (fun HT_ HW_ => ?_)
        generalize wr.drew = w9 at HB hx180_0 hx180_1 hx180_2 hx181_0 hx181_1 hx181_2 hHeld ⊢
        refine pure_ (i := 0) (N := some 17) (v := ?_) (a' := ?_) #[true, false, false, false, false, false, false, false, false, false] rfl rfl (any_of HT_.out (by kernel_rfl)) (fun _ _ _ h => h) (Or.inl ⟨by rfl, ?_⟩) ?_ ?_
        rotate_left
        ·intro w'
         go_simp
         with_reducible rfl
        rotate_left
        ·simp only [Act.put, List.setIfInBounds_toArray, List.set_cons_zero, List.set_cons_succ, i64_w, i32_w, u8_w_]
         rfl
        refine pure_ (i := 1) (N := some 18) (v := ?_) (a' := ?_) #[true, true, false, false, false, false, false, false, false, false] rfl rfl (any_of HT_.out (by kernel_rfl)) (fun _ _ _ h => h) (Or.inl ⟨by rfl, ?_⟩) ?_ ?_
        rotate_left
        ·intro w'
         go_simp
         with_reducible rfl
        rotate_left
        ·simp only [Act.put, List.setIfInBounds_toArray, List.set_cons_zero, List.set_cons_succ, i64_w, i32_w, u8_w_]
         rfl
        refine pure_ (i := 2) (N := some 19) (v := ?_) (a' := ?_) #[true, true, true, false, false, false, false, false, false, false] rfl rfl (any_of HT_.out (by kernel_rfl)) (fun _ _ _ h => h) (Or.inl ⟨by rfl, ?_⟩) ?_ ?_
        rotate_left
        ·intro w'
         go_simp
         with_reducible rfl
        rotate_left
        ·simp only [Act.put, List.setIfInBounds_toArray, List.set_cons_zero, List.set_cons_succ, i64_w, i32_w, u8_w_]
         rfl
        refine pure_ (i := 4) (N := some 21) (v := ?_) (a' := ?_) #[true, true, true, false, true, false, false, false, false, false] rfl rfl (any_of HT_.out (by kernel_rfl)) (fun _ _ _ h => h) (Or.inl ⟨by rfl, ?_⟩) ?_ ?_
        rotate_left
        ·intro w'
         go_simp
         with_reducible rfl
        rotate_left
        ·simp only [Act.put, List.setIfInBounds_toArray, List.set_cons_zero, List.set_cons_succ, i64_w, i32_w, u8_w_]
         rfl
        refine pure_ (i := 5) (N := some 22) (v := ?_) (a' := ?_) #[true, true, true, false, true, true, false, false, false, false] rfl rfl (any_of HT_.out (by kernel_rfl)) (fun _ _ _ h => h) (Or.inl ⟨by rfl, ?_⟩) ?_ ?_
        rotate_left
        ·intro w'
         go_simp
         with_reducible rfl
        rotate_left
        ·simp only [Act.put, List.setIfInBounds_toArray, List.set_cons_zero, List.set_cons_succ, i64_w, i32_w, u8_w_]
         rfl
        refine pure_ (i := 6) (N := some 23) (v := ?_) (a' := ?_) #[true, true, true, false, true, true, true, false, false, false] rfl rfl (any_of HT_.out (by kernel_rfl)) (fun _ _ _ h => h) (Or.inl ⟨by rfl, ?_⟩) ?_ ?_
        rotate_left
        ·intro w'
         go_simp
         with_reducible rfl
        rotate_left
        ·simp only [Act.put, List.setIfInBounds_toArray, List.set_cons_zero, List.set_cons_succ, i64_w, i32_w, u8_w_]
         rfl
        refine take_ (i := 3) (N := some 20) (v := ?_) (a' := ?_) #[true, true, true, true, true, true, true, false, false, false] rfl rfl (take_ofW HT_.out HW_.out (by kernel_rfl)) (fun _ _ _ h => h) (Or.inl ⟨by rfl, ?_⟩) hHeld ?_ ?_
        rotate_left
        ·rintro w' ⟨s0, s1, s2, s3, s4, s5⟩
         go_simp
         with_reducible rfl
        rotate_left
        ·simp only [Act.put, List.setIfInBounds_toArray, List.set_cons_zero, List.set_cons_succ, i64_w, i32_w, u8_w_]
         rfl
        refine take_ (i := 7) (N := some 24) (v := ?_) (a' := ?_) #[true, true, true, true, true, true, true, true, false, false] rfl rfl (take_ofW HT_.out HW_.out (by kernel_rfl)) (fun _ _ _ h => h) (Or.inl ⟨by rfl, ?_⟩) hHeld ?_ ?_
        rotate_left
        ·rintro w' ⟨s0, s1, s2, s3, s4, s5⟩
         go_simp
         with_reducible rfl
        rotate_left
        ·simp only [Act.put, List.setIfInBounds_toArray, List.set_cons_zero, List.set_cons_succ, i64_w, i32_w, u8_w_]
         rfl
        refine one_ (i := 8) (N := some 25) #[true, true, true, true, true, true, true, true, true, false] rfl rfl (one_of HT_.out (by kernel_rfl)) (by decide) (fun K hK => ?_)
        refine goes_ Tryd.func123 (by kernel_rfl) rfl #[.agg #[.int .u8 ((rd_T137 l0 x5_1).f0), .int .u8 ((rd_T137 l0 x5_1).f1), .int .i8 ((rd_T137 l0 x5_1).f2)], .agg #[.int .u8 ((rd_T137 l1 x5_1).f0), .int .u8 ((rd_T137 l1 x5_1).f1), .int .i8 ((rd_T137 l1 x5_1).f2)]] (by rfl) rfl rfl (by (try simp only [List.map_toArray, List.map_cons, List.map_nil]); first | done | rfl | (simp only [List.length_drop, List.length_take]; rfl)) ?_
        with_reducible refine (laws_eqPair.calls ((rd_T137 l0 x5_1).f0) ((rd_T137 l0 x5_1).f1) ((rd_T137 l0 x5_1).f2) ((rd_T137 l1 x5_1).f0) ((rd_T137 l1 x5_1).f1) ((rd_T137 l1 x5_1).f2) true _ A7.out).mono ?_
        rintro e w10 ⟨rfl, hb⟩
        refine ⟨_, rfl, ?_⟩
        have n0_ := Aside0.mk (below_step (by repeat (first | (with_reducible first | exact HB.out | apply bwA | apply pwN | apply bw1) | exact HB.out)) hb)
        clear HB
        have HB := n0_
        clear n0_
        (try clear hb)
        (try clear hb2)
        (try clear hk)
        (try clear hi)
        refine hK.out _ _ ⟨((HB.out.cell (World.block_lt_of_cell? w _ hw180_0)).trans hw180_0), ((HB.out.cell (World.block_lt_of_cell? w _ hw180_1)).trans hw180_1), ((HB.out.cell (World.block_lt_of_cell? w _ hw180_2)).trans hw180_2), ((HB.out.cell (World.block_lt_of_cell? w _ hw181_0)).trans hw181_0), ((HB.out.cell (World.block_lt_of_cell? w _ hw181_1)).trans hw181_1), ((HB.out.cell (World.block_lt_of_cell? w _ hw181_2)).trans hw181_2)⟩ (fun hHeld => ?_)
        clear hK K
        refine norm_ (a' := ?_) ?_ ?_
        rotate_left
        ·show Act.put _ (some 25) _ = _
         simp only [Act.put, List.setIfInBounds_toArray, List.set_cons_zero, List.set_cons_succ, i64_w, i32_w, u8_w_]
         rfl
        refine pure_ (i := 9) (N := some 26) (v := ?_) (a' := ?_) #[true, true, true, true, true, true, true, true, true, true] rfl rfl (any_of HT_.out (by kernel_rfl)) (fun _ _ _ h => h) (Or.inl ⟨by rfl, ?_⟩) ?_ ?_
        rotate_left
        ·intro w'
         go_simp
         with_reducible rfl
        rotate_left
        ·simp only [Act.put, List.setIfInBounds_toArray, List.set_cons_zero, List.set_cons_succ, i64_w, i32_w, u8_w_]
         rfl
        refine done_ (done_of HT_.out (by kernel_rfl)) ?_
        try go_wp2
        go_roundg k1
        case measure => have := HK1.out; omega
        case rel => exact ⟨(wrap64 (x5_1 + 1)), (by first | rfl | (simp; done) | (simp [*]; done)), H', ⟨by have := HK1.out; omega⟩, ⟨by repeat (first | (with_reducible first | exact HB.out | apply bwA | apply pwN | apply bw1) | exact HB.out)⟩⟩
       ·replace c8 := Bool.eq_false_iff.mpr c8
        subst c8
        rw [if_neg (show ¬ (false = true) by decide)] at H
        have H1 := H
        clear H
        have H := H1
        clear H1
        obtain rfl := Option.some.inj H
        try go_wp2
        have n0_ := Aside0.mk (bw1 HB.out)
        clear HB
        have HB := n0_
        clear n0_
        have p180 : 0 ≤ (x5_1 : Int) := of_decide_eq_true (by first | (with_reducible assumption) | assumption)
        have q180 : x5_1 < (l0.length : Int) := of_decide_eq_true (by first | (with_reducible assumption) | assumption)
        obtain ⟨ad180, e180, hx180_0, hx180_1, hx180_2⟩ := at_T137 HR0.out x5_1 p180 q180
        have hw180_2 := hx180_2
        have hw180_1 := hx180_1
        have hw180_0 := hx180_0
        cases e180
        replace hx180_0 := (HB.out.cell (World.block_lt_of_cell? w _ hx180_0)).trans hx180_0
        replace hx180_1 := (HB.out.cell (World.block_lt_of_cell? w _ hx180_1)).trans hx180_1
        replace hx180_2 := (HB.out.cell (World.block_lt_of_cell? w _ hx180_2)).trans hx180_2
        replace p180 := eq_true p180
        replace q180 := eq_true q180
        have p181 : 0 ≤ (x5_1 : Int) := of_decide_eq_true (by first | (with_reducible assumption) | assumption)
        have q181 : x5_1 < (l1.length : Int) := of_decide_eq_true (by first | (with_reducible assumption) | assumption)
        obtain ⟨ad181, e181, hx181_0, hx181_1, hx181_2⟩ := at_T137 HR1.out x5_1 p181 q181
        have hw181_2 := hx181_2
        have hw181_1 := hx181_1
        have hw181_0 := hx181_0
        cases e181
        replace hx181_0 := (HB.out.cell (World.block_lt_of_cell? w _ hx181_0)).trans hx181_0
        replace hx181_1 := (HB.out.cell (World.block_lt_of_cell? w _ hx181_1)).trans hx181_1
        replace hx181_2 := (HB.out.cell (World.block_lt_of_cell? w _ hx181_2)).trans hx181_2
        replace p181 := eq_true p181
        replace q181 := eq_true q181
        refine start_ (n := 10) (S := fun w' => w'.cell? (ad180.add ((x5_1).toNat * 3)) = some (.int .u8 ((rd_T137 l0 x5_1).f0)) ∧ w'.cell? ⟨(ad180.add ((x5_1).toNat * 3)).block, (ad180.add ((x5_1).toNat * 3)).off + 1, none⟩ = some (.int .u8 ((rd_T137 l0 x5_1).f1)) ∧ w'.cell? ⟨(ad180.add ((x5_1).toNat * 3)).block, (ad180.add ((x5_1).toNat * 3)).off + 2, none⟩ = some (.int .i8 ((rd_T137 l0 x5_1).f2)) ∧ w'.cell? (ad181.add ((x5_1).toNat * 3)) = some (.int .u8 ((rd_T137 l1 x5_1).f0)) ∧ w'.cell? ⟨(ad181.add ((x5_1).toNat * 3)).block, (ad181.add ((x5_1).toNat * 3)).off + 1, none⟩ = some (.int .u8 ((rd_T137 l1 x5_1).f1)) ∧ w'.cell? ⟨(ad181.add ((x5_1).toNat * 3)).block, (ad181.add ((x5_1).toNat * 3)).off + 2, none⟩ = some (.int .i8 ((rd_T137 l1 x5_1).f2))) (ds := []) #[false, false, false, false, false, false, false, false, false, false] (by kernel_rfl) rfl rfl ⟨((HB.out.cell (World.block_lt_of_cell? w _ hw180_0)).trans hw180_0), ((HB.out.cell (World.block_lt_of_cell? w _ hw180_1)).trans hw180_1), ((HB.out.cell (World.block_lt_of_cell? w _ hw180_2)).trans hw180_2), ((HB.out.cell (World.block_lt_of_cell? w _ hw181_0)).trans hw181_0), ((HB.out.cell (World.block_lt_of_cell? w _ hw181_1)).trans hw181_1), ((HB.out.cell (World.block_lt_of_cell? w _ hw181_2)).trans hw181_2)⟩ (fun hHeld => ?_); refine with_tabW laws_eqPairS.tab6 laws_eqPairS.bits6 (fun HT_ HW_ => ?_)
        generalize wr.drew = w11 at HB hx180_0 hx180_1 hx180_2 hx181_0 hx181_1 hx181_2 hHeld ⊢
        refine pure_ (i := 0) (N := some 17) (v := ?_) (a' := ?_) #[true, false, false, false, false, false, false, false, false, false] rfl rfl (any_of HT_.out (by kernel_rfl)) (fun _ _ _ h => h) (Or.inl ⟨by rfl, ?_⟩) ?_ ?_
        rotate_left
        ·intro w'
         go_simp
         with_reducible rfl
        rotate_left
        ·simp only [Act.put, List.setIfInBounds_toArray, List.set_cons_zero, List.set_cons_succ, i64_w, i32_w, u8_w_]
         rfl
        refine pure_ (i := 1) (N := some 18) (v := ?_) (a' := ?_) #[true, true, false, false, false, false, false, false, false, false] rfl rfl (any_of HT_.out (by kernel_rfl)) (fun _ _ _ h => h) (Or.inl ⟨by rfl, ?_⟩) ?_ ?_
        rotate_left
        ·intro w'
         go_simp
         with_reducible rfl
        rotate_left
        ·simp only [Act.put, List.setIfInBounds_toArray, List.set_cons_zero, List.set_cons_succ, i64_w, i32_w, u8_w_]
         rfl
        refine pure_ (i := 2) (N := some 19) (v := ?_) (a' := ?_) #[true, true, true, false, false, false, false, false, false, false] rfl rfl (any_of HT_.out (by kernel_rfl)) (fun _ _ _ h => h) (Or.inl ⟨by rfl, ?_⟩) ?_ ?_
        rotate_left
        ·intro w'
         go_simp
         with_reducible rfl
        rotate_left
        ·simp only [Act.put, List.setIfInBounds_toArray, List.set_cons_zero, List.set_cons_succ, i64_w, i32_w, u8_w_]
         rfl
        refine pure_ (i := 4) (N := some 21) (v := ?_) (a' := ?_) #[true, true, true, false, true, false, false, false, false, false] rfl rfl (any_of HT_.out (by kernel_rfl)) (fun _ _ _ h => h) (Or.inl ⟨by rfl, ?_⟩) ?_ ?_
        rotate_left
        ·intro w'
         go_simp
         with_reducible rfl
        rotate_left
        ·simp only [Act.put, List.setIfInBounds_toArray, List.set_cons_zero, List.set_cons_succ, i64_w, i32_w, u8_w_]
         rfl
        refine pure_ (i := 5) (N := some 22) (v := ?_) (a' := ?_) #[true, true, true, false, true, true, false, false, false, false] rfl rfl (any_of HT_.out (by kernel_rfl)) (fun _ _ _ h => h) (Or.inl ⟨by rfl, ?_⟩) ?_ ?_
        rotate_left
        ·intro w'
         go_simp
         with_reducible rfl
        rotate_left
        ·simp only [Act.put, List.setIfInBounds_toArray, List.set_cons_zero, List.set_cons_succ, i64_w, i32_w, u8_w_]
         rfl
        refine pure_ (i := 6) (N := some 23) (v := ?_) (a' := ?_) #[true, true, true, false, true, true, true, false, false, false] rfl rfl (any_of HT_.out (by kernel_rfl)) (fun _ _ _ h => h) (Or.inl ⟨by rfl, ?_⟩) ?_ ?_
        rotate_left
        ·intro w'
         go_simp
         with_reducible rfl
        rotate_left
        ·simp only [Act.put, List.setIfInBounds_toArray, List.set_cons_zero, List.set_cons_succ, i64_w, i32_w, u8_w_]
         rfl
        refine take_ (i := 3) (N := some 20) (v := ?_) (a' := ?_) #[true, true, true, true, true, true, true, false, false, false] rfl rfl (take_ofW HT_.out HW_.out (by kernel_rfl)) (fun _ _ _ h => h) (Or.inl ⟨by rfl, ?_⟩) hHeld ?_ ?_
        rotate_left
        ·rintro w' ⟨s0, s1, s2, s3, s4, s5⟩
         go_simp
         with_reducible rfl
        rotate_left
        ·simp only [Act.put, List.setIfInBounds_toArray, List.set_cons_zero, List.set_cons_succ, i64_w, i32_w, u8_w_]
         rfl
        refine take_ (i := 7) (N := some 24) (v := ?_) (a' := ?_) #[true, true, true, true, true, true, true, true, false, false] rfl rfl (take_ofW HT_.out HW_.out (by kernel_rfl)) (fun _ _ _ h => h) (Or.inl ⟨by rfl, ?_⟩) hHeld ?_ ?_
        rotate_left
        ·rintro w' ⟨s0, s1, s2, s3, s4, s5⟩
         go_simp
         with_reducible rfl
        rotate_left
        ·simp only [Act.put, List.setIfInBounds_toArray, List.set_cons_zero, List.set_cons_succ, i64_w, i32_w, u8_w_]
         rfl
        refine one_ (i := 8) (N := some 25) #[true, true, true, true, true, true, true, true, true, false] rfl rfl (one_of HT_.out (by kernel_rfl)) (by decide) (fun K hK => ?_)
        refine goes_ Tryd.func123 (by kernel_rfl) rfl #[.agg #[.int .u8 ((rd_T137 l0 x5_1).f0), .int .u8 ((rd_T137 l0 x5_1).f1), .int .i8 ((rd_T137 l0 x5_1).f2)], .agg #[.int .u8 ((rd_T137 l1 x5_1).f0), .int .u8 ((rd_T137 l1 x5_1).f1), .int .i8 ((rd_T137 l1 x5_1).f2)]] (by rfl) rfl rfl (by (try simp only [List.map_toArray, List.map_cons, List.map_nil]); first | done | rfl | (simp only [List.length_drop, List.length_take]; rfl)) ?_
        with_reducible refine (laws_eqPair.calls ((rd_T137 l0 x5_1).f0) ((rd_T137 l0 x5_1).f1) ((rd_T137 l0 x5_1).f2) ((rd_T137 l1 x5_1).f0) ((rd_T137 l1 x5_1).f1) ((rd_T137 l1 x5_1).f2) false _ A7.out).mono ?_
        rintro e w12 ⟨rfl, hb⟩
        refine ⟨_, rfl, ?_⟩
        have n0_ := Aside0.mk (below_step (by repeat (first | (with_reducible first | exact HB.out | apply bwA | apply pwN | apply bw1) | exact HB.out)) hb)
        clear HB
        have HB := n0_
        clear n0_
        (try clear hb)
        (try clear hb2)
        (try clear hk)
        (try clear hi)
        refine hK.out _ _ ⟨((HB.out.cell (World.block_lt_of_cell? w _ hw180_0)).trans hw180_0), ((HB.out.cell (World.block_lt_of_cell? w _ hw180_1)).trans hw180_1), ((HB.out.cell (World.block_lt_of_cell? w _ hw180_2)).trans hw180_2), ((HB.out.cell (World.block_lt_of_cell? w _ hw181_0)).trans hw181_0), ((HB.out.cell (World.block_lt_of_cell? w _ hw181_1)).trans hw181_1), ((HB.out.cell (World.block_lt_of_cell? w _ hw181_2)).trans hw181_2)⟩ (fun hHeld => ?_)
        clear hK K
        refine norm_ (a' := ?_) ?_ ?_
        rotate_left
        ·show Act.put _ (some 25) _ = _
         simp only [Act.put, List.setIfInBounds_toArray, List.set_cons_zero, List.set_cons_succ, i64_w, i32_w, u8_w_]
         rfl
        refine pure_ (i := 9) (N := some 26) (v := ?_) (a' := ?_) #[true, true, true, true, true, true, true, true, true, true] rfl rfl (any_of HT_.out (by kernel_rfl)) (fun _ _ _ h => h) (Or.inl ⟨by rfl, ?_⟩) ?_ ?_
        rotate_left
        ·intro w'
         go_simp
         with_reducible rfl
        rotate_left
        ·simp only [Act.put, List.setIfInBounds_toArray, List.set_cons_zero, List.set_cons_succ, i64_w, i32_w, u8_w_]
         rfl
        refine done_ (done_of HT_.out (by kernel_rfl)) ?_
        try go_wp2
        go_ret
        exact ⟨by first | rfl | (simp [errW_none, errW_some] <;> rfl) | (simp [*, errW_none, errW_some] <;> rfl), by repeat (first | (with_reducible first | exact HB.out | apply bwA | apply pwN | apply bw1) | exact HB.out)⟩
      ·rw [if_neg c6] at H
       exact absurd H (by simp)
     ·rw [if_neg c5] at H
      exact absurd H (by simp)
    ·rw [if_neg c4] at H
     have c4b0 : decide (x5_1 < (l0.length : Int)) = false := decide_eq_false c4
     clear c4
     obtain rfl := Option.some.inj H
     go_wp2
     go_ret
     exact ⟨by first | rfl | (simp [errW_none, errW_some] <;> rfl) | (simp [*, errW_none, errW_some] <;> rfl), by repeat (first | (with_reducible first | exact HB.out | apply bwA | apply pwN | apply bw1) | exact HB.out)⟩
 ·rw [if_neg c3] at H
  have c3b0 : ((l0.length : Int) == (l1.length : Int)) = false := beq_eq_false_iff_ne.mpr c3
  have c3b1 : ((l0.length : Int) != (l1.length : Int)) = true := bne_iff_ne.mpr c3
  have c3b2 : (l0.length == l1.length) = false := by first | simpa using c3 | (simp at c3 ⊢; omega)
  obtain rfl := Option.some.inj H
  go_enter Tryd.func72, Tryd.ntmps72
  go_wp2
  go_ret
  exact ⟨by first | rfl | (simp [errW_none, errW_some] <;> rfl) | (simp [*, errW_none, errW_some] <;> rfl), by repeat (first | (with_reducible first | exact HB.out | apply bwA | apply pwN | apply bw1) | exact HB.out)⟩
end Go.Proofs.YticjkfacdmmopaaDoor.Q
namespace Go.Proofs.YticjkfacdmmopaaDoor.Ext
open Go.RowKit Go.Proofs.YticjkfacdmmopaaDoor.Q Go.Proofs.YticjkfacdmmopaaDoor.Face Go.Proofs.YticjkfacdmmopaaDoorW.PrintWords Go.Proofs.YticjkfacdmmopaaDoorW.PrintLast Go.Proofs.YticjkfacdmmopaaDoorW.PrintMore
set_option linter.unusedVariables false
set_option linter.unusedSimpArgs false
set_option maxRecDepth 100000
def eqFaceF (L M : List Int) (P Q : List Pr) : Option Bool := if L.take 26 = M.take 26 ∧ rd L 26 = rd M 26 ∧ rd L 27 = rd M 27 then laws_eqPairS.f (P.length + 1) P Q else some false
set_option maxHeartbeats 2000000 in
theorem eqFace_calls (L M : List Int) (hL : L.length = 28) (hM : M.length = 28) (A B : Option Addr) (c d : Nat) (P Q : List Pr) (hc : P.length ≤ c) (hd : Q.length ≤ d) (w : World) (hr : Kd.C kPr w A P.length P) (hq : Kd.C kPr w B Q.length Q) (r : Bool) (h : eqFaceF L M P Q = some r) :
  Calls Tryd.prog 22 #[.agg (faceV L A P.length c), .agg (faceV M B Q.length d)] w fun e w' => e = .returned (.bool r) ∧ Below w.heap.size w w' := by
 obtain ⟨a, ha⟩ : ∃ a, rd L (26 : Nat) = a := ⟨_, rfl⟩
 obtain ⟨b, hb⟩ : ∃ b, rd L (27 : Nat) = b := ⟨_, rfl⟩
 obtain ⟨a', ha'⟩ : ∃ a, rd M (26 : Nat) = a := ⟨_, rfl⟩
 obtain ⟨b', hb'⟩ : ∃ b, rd M (27 : Nat) = b := ⟨_, rfl⟩
 have HI : Aside0 ((Tryd.prog.info? 23).map (·.size) = some (nums .i8 (L.take 26)).length) := ⟨by rw [show (nums .i8 (L.take 26)).length = 26 by simp [nums]; omega]; exact info_26T⟩
 have HJ : Aside0 ((Tryd.prog.info? 23).map (·.size) = some (nums .i8 (M.take 26)).length) := ⟨by rw [show (nums .i8 (M.take 26)).length = 26 by simp [nums]; omega]; exact info_26T⟩
 have HL := Aside0.mk hL
 have HM := Aside0.mk hM
 have HR := Aside0.mk hr
 have HQ := Aside0.mk hq
 have HC := Aside0.mk hc
 have HD := Aside0.mk hd
 have HF := Aside0.mk h
 have Ha := Aside0.mk ha
 have Hb := Aside0.mk hb
 have Ha' := Aside0.mk ha'
 have Hb' := Aside0.mk hb'
 have H0 := Aside0.mk (blk_alloc (blk_new w (.cells (faceV L A P.length c) 32)) (.cells (faceV M B Q.length d) 32))
 have H1 := Aside0.mk (blk_at (W := w.alloc (.cells (faceV L A P.length c) 32)) (n := w.heap.size + 1) (by simp) (.cells (faceV M B Q.length d) 32))
 have HB := Aside0.mk (bwA (bwA (Below.refl w.heap.size w) (.cells (faceV L A P.length c) 32)) (.cells (faceV M B Q.length d) 32))
 clear ha hb ha' hb' hL hM hr hq hc hd h
 go_enter Tryd.func22, Tryd.ntmps22
 go_wp2_with (first | ((with_reducible refine gate_dst (N := 6) rfl ?_); refine wpList_load_mid rfl 23 (.tmp 5) rfl w.heap.size 0 rfl (nums .i8 (L.take 26)) _ (range_faceT H0.out 26 (by have := HL.out; omega)) Tryd.underlying23 rfl HI.out ?_) | ((with_reducible refine gate_dst (N := 8) rfl ?_); refine wpList_load_mid rfl 23 (.tmp 7) rfl (w.heap.size + 1) 0 rfl (nums .i8 (M.take 26)) _ (range_faceT H1.out 26 (by have := HM.out; omega)) Tryd.underlying23 rfl HJ.out ?_) | fail)
 refine (eqInt8A26_calls (L.take 26) (M.take 26) (by have := HL.out; simp; omega) (by have := HM.out; simp; omega) _).mono ?_
 rintro e w1 ⟨rfl, hb1⟩
 have K0 := Aside0.mk (blk_below H0.out hb1)
 have K1 := Aside0.mk (blk_below H1.out hb1)
 have KB := Aside0.mk (below_step HB.out hb1)
 have c0 := cellFT K0.out 26 (by have := HL.out; omega) Ha.out
 have c1 := cellFT K0.out 27 (by have := HL.out; omega) Hb.out
 have c2 := face_pairs K0.out HL.out
 have d0 := cellFT K1.out 26 (by have := HM.out; omega) Ha'.out
 have d1 := cellFT K1.out 27 (by have := HM.out; omega) Hb'.out
 have d2 := face_pairs K1.out HM.out
 by_cases h26 : L.take 26 = M.take 26
 ·rw [decide_eq_true h26]
  by_cases hA : a = a'
  ·by_cases hB : b = b'
   ·have hA1 : (a != a') = false := by simpa using hA
    have hB1 : (b != b') = false := by simpa using hB
    have HH : Aside0 (laws_eqPairS.f (P.length + 1) P Q = some r) := ⟨by have := HF.out; unfold eqFaceF at this; rwa [if_pos ⟨h26, Ha.out.trans (hA.trans Ha'.out.symm), Hb.out.trans (hB.trans Hb'.out.symm)⟩] at this⟩
    clear hA hB h26
    go_wp2_with fail
    refine (laws_eqPairS.calls (P.length + 1) A c P B d Q r _ (Kd.C_below HR.out KB.out) HC.out (Kd.C_below HQ.out KB.out) HD.out HH.out).mono ?_
    rintro e w2 ⟨rfl, hd2⟩
    have BD : Aside0 (Below w.heap.size w w2) := ⟨by first | exact below_step KB.out hd2 | (obtain ⟨nd, rfl⟩ := hd2; exact pwN KB.out _)⟩
    clear hd2
    cases r
    ·go_wp2
     go_ret
     exact ⟨rfl, BD.out⟩
    ·go_wp2
     go_ret
     exact ⟨rfl, BD.out⟩
   ·have hA1 : (a != a') = false := by simpa using hA
    have hB1 : (b != b') = true := by simpa using hB
    have HH : Aside0 (r = false) := ⟨by have := HF.out; unfold eqFaceF at this; rw [if_neg (by rintro ⟨_, _, h3⟩; exact hB (Hb.out.symm.trans (Eq.trans h3 Hb'.out)))] at this; exact (Option.some.inj this).symm⟩
    clear hA hB h26
    go_wp2
    go_ret
    exact ⟨by rw [HH.out]; rfl, KB.out⟩
  ·have hA1 : (a != a') = true := by simpa using hA
   have HH : Aside0 (r = false) := ⟨by have := HF.out; unfold eqFaceF at this; rw [if_neg (by rintro ⟨_, h3, _⟩; exact hA (Ha.out.symm.trans (Eq.trans h3 Ha'.out)))] at this; exact (Option.some.inj this).symm⟩
   clear hA h26
   go_wp2
   go_ret
   exact ⟨by rw [HH.out]; rfl, KB.out⟩
 ·rw [decide_eq_false h26]
  have HH : Aside0 (r = false) := ⟨by have := HF.out; unfold eqFaceF at this; rw [if_neg (by rintro ⟨h3, _, _⟩; exact h26 h3)] at this; exact (Option.some.inj this).symm⟩
  clear h26
  go_wp2
  go_ret
  exact ⟨by rw [HH.out]; rfl, KB.out⟩
def laws_eqFace.f (F0 F1 F2 F3 F4 F5 F6 F7 F8 F9 F10 F11 F12 F13 F14 F15 F16 F17 F18 F19 F20 F21 F22 F23 F24 F25 F26 F27 : Int) (l0_28 : List Pr) (J0 J1 J2 J3 J4 J5 J6 J7 J8 J9 J10 J11 J12 J13 J14 J15 J16 J17 J18 J19 J20 J21 J22 J23 J24 J25 J26 J27 : Int) (l1_28 : List Pr) : Option Bool := eqFaceF [F0, F1, F2, F3, F4, F5, F6, F7, F8, F9, F10, F11, F12, F13, F14, F15, F16, F17, F18, F19, F20, F21, F22, F23, F24, F25, F26, F27] [J0, J1, J2, J3, J4, J5, J6, J7, J8, J9, J10, J11, J12, J13, J14, J15, J16, J17, J18, J19, J20, J21, J22, J23, J24, J25, J26, J27] l0_28 l1_28
theorem laws_eqFace.calls (F0 F1 F2 F3 F4 F5 F6 F7 F8 F9 F10 F11 F12 F13 F14 F15 F16 F17 F18 F19 F20 F21 F22 F23 F24 F25 F26 F27 : Int) (A0_28 : Option Addr) (c0_28 : Nat) (l0_28 : List Pr) (J0 J1 J2 J3 J4 J5 J6 J7 J8 J9 J10 J11 J12 J13 J14 J15 J16 J17 J18 J19 J20 J21 J22 J23 J24 J25 J26 J27 : Int) (A1_28 : Option Addr) (c1_28 : Nat) (l1_28 : List Pr) (r : Bool) (w : World) (hr0_28 : Kd.C kPr w A0_28 l0_28.length l0_28) (hc0_28 : l0_28.length ≤ c0_28) (hr1_28 : Kd.C kPr w A1_28 l1_28.length l1_28) (hc1_28 : l1_28.length ≤ c1_28) (h : laws_eqFace.f F0 F1 F2 F3 F4 F5 F6 F7 F8 F9 F10 F11 F12 F13 F14 F15 F16 F17 F18 F19 F20 F21 F22 F23 F24 F25 F26 F27 l0_28 J0 J1 J2 J3 J4 J5 J6 J7 J8 J9 J10 J11 J12 J13 J14 J15 J16 J17 J18 J19 J20 J21 J22 J23 J24 J25 J26 J27 l1_28 = some r) :
  Calls Tryd.prog 22 #[.agg #[.int .i8 F0, .int .i8 F1, .int .i8 F2, .int .i8 F3, .int .i8 F4, .int .i8 F5, .int .i8 F6, .int .i8 F7, .int .i8 F8, .int .i8 F9, .int .i8 F10, .int .i8 F11, .int .i8 F12, .int .i8 F13, .int .i8 F14, .int .i8 F15, .int .i8 F16, .int .i8 F17, .int .i8 F18, .int .i8 F19, .int .i8 F20, .int .i8 F21, .int .i8 F22, .int .i8 F23, .int .i8 F24, .int .i8 F25, .int .i8 F26, .int .i8 F27, .slice A0_28 l0_28.length c0_28], .agg #[.int .i8 J0, .int .i8 J1, .int .i8 J2, .int .i8 J3, .int .i8 J4, .int .i8 J5, .int .i8 J6, .int .i8 J7, .int .i8 J8, .int .i8 J9, .int .i8 J10, .int .i8 J11, .int .i8 J12, .int .i8 J13, .int .i8 J14, .int .i8 J15, .int .i8 J16, .int .i8 J17, .int .i8 J18, .int .i8 J19, .int .i8 J20, .int .i8 J21, .int .i8 J22, .int .i8 J23, .int .i8 J24, .int .i8 J25, .int .i8 J26, .int .i8 J27, .slice A1_28 l1_28.length c1_28]] w fun e w' => e = .returned (.bool r) ∧ Below w.heap.size w w' :=
 eqFace_calls [F0, F1, F2, F3, F4, F5, F6, F7, F8, F9, F10, F11, F12, F13, F14, F15, F16, F17, F18, F19, F20, F21, F22, F23, F24, F25, F26, F27] [J0, J1, J2, J3, J4, J5, J6, J7, J8, J9, J10, J11, J12, J13, J14, J15, J16, J17, J18, J19, J20, J21, J22, J23, J24, J25, J26, J27] rfl rfl A0_28 A1_28 c0_28 c1_28 l0_28 l1_28 hc0_28 hc1_28 w hr0_28 hr1_28 r h
end Go.Proofs.YticjkfacdmmopaaDoor.Ext
namespace Go.Proofs.YticjkfacdmmopaaDoor.Pure
open Go.RowKit Go.Proofs.YticjkfacdmmopaaDoor.Ext Go.Proofs.YticjkfacdmmopaaDoor.Q Go.Proofs.YticjkfacdmmopaaDoor.Txt Go.Proofs.YticjkfacdmmopaaDoor.Face Go.Proofs.YticjkfacdmmopaaDoorW.PrintWords Go.Proofs.YticjkfacdmmopaaDoorW.PrintLast Go.Proofs.YticjkfacdmmopaaDoorW.PrintMore
set_option linter.unusedVariables false
set_option linter.unusedSimpArgs false
set_option maxRecDepth 100000
theorem szFace_eq (L : List Int) (lp : List LP) (hp : lp.length ≤ 9223372036854775807) : laws_szFace.f (rd L 0) (rd L 1) (rd L 2) (rd L 3) (rd L 4) (rd L 5) (rd L 6) (rd L 7) (rd L 8) (rd L 9) (rd L 10) (rd L 11) (rd L 12) (rd L 13) (rd L 14) (rd L 15) (rd L 16) (rd L 17) (rd L 18) (rd L 19) (rd L 20) (rd L 21) (rd L 22) (rd L 23) (rd L 24) (rd L 25) (rd L 26) (rd L 27) lp 1048576 = some (if 1048576 < lp.length then -1 else 1048576 - (lp.length : Int)) := by
 unfold laws_szFace.f laws_szPairS.f
 rw [w64 (x := 1048576 - (lp.length : Int)) (by omega) (by omega)]
 by_cases h : 1048576 < lp.length
 ·rw [if_pos (by omega), if_pos h, Option.bind_some, if_pos (by omega)]
 ·rw [if_neg (by omega), if_neg h, Option.bind_some, if_neg (by omega)]
theorem toFace_eq (L : List Int) (lp : List LP) (hp : lp.length ≤ 1048576) : laws_toFace.f (rd L 0) (rd L 1) (rd L 2) (rd L 3) (rd L 4) (rd L 5) (rd L 6) (rd L 7) (rd L 8) (rd L 9) (rd L 10) (rd L 11) (rd L 12) (rd L 13) (rd L 14) (rd L 15) (rd L 16) (rd L 17) (rd L 18) (rd L 19) (rd L 20) (rd L 21) (rd L 22) (rd L 23) (rd L 24) (rd L 25) (rd L 26) (rd L 27) lp = some (rd L 0, rd L 1, rd L 2, rd L 3, rd L 4, rd L 5, rd L 6, rd L 7, rd L 8, rd L 9, rd L 10, rd L 11, rd L 12, rd L 13, rd L 14, rd L 15, rd L 16, rd L 17, rd L 18, rd L 19, rd L 20, rd L 21, rd L 22, rd L 23, rd L 24, rd L 25, rd L 26, rd L 27, lp.map toP) := by
 unfold laws_toFace.f
 rw [if_pos hp]
theorem eqPairS_l0 (P : List Pr) (hP : P.length ≤ 4611686018427387904) : ∀ (d k n : Nat), n + d = P.length → d < k → laws_eqPairS.l0 k P P n = some true
 | 0, k, n, hd, hk => by
  obtain ⟨k, rfl⟩ := some_k hk
  rw [laws_eqPairS.l0, if_neg (by omega)]
 | d + 1, k, n, hd, hk => by
  obtain ⟨k, rfl⟩ := some_k hk
  rw [laws_eqPairS.l0, if_pos (by omega), if_pos (by omega), if_pos (by omega), laws_eqPair.f, if_pos rfl, if_pos rfl, if_pos rfl, Option.bind_some, if_pos rfl, wrap_succ n (by omega)]
  exact eqPairS_l0 P hP d k (n + 1) (by omega) (by omega)
theorem eqFace_self (L : List Int) (P : List Pr) (hP : P.length ≤ 1048576) {k : Nat} (hk : 1048577 < k) : laws_eqFace.f (rd L 0) (rd L 1) (rd L 2) (rd L 3) (rd L 4) (rd L 5) (rd L 6) (rd L 7) (rd L 8) (rd L 9) (rd L 10) (rd L 11) (rd L 12) (rd L 13) (rd L 14) (rd L 15) (rd L 16) (rd L 17) (rd L 18) (rd L 19) (rd L 20) (rd L 21) (rd L 22) (rd L 23) (rd L 24) (rd L 25) (rd L 26) (rd L 27) P (rd L 0) (rd L 1) (rd L 2) (rd L 3) (rd L 4) (rd L 5) (rd L 6) (rd L 7) (rd L 8) (rd L 9) (rd L 10) (rd L 11) (rd L 12) (rd L 13) (rd L 14) (rd L 15) (rd L 16) (rd L 17) (rd L 18) (rd L 19) (rd L 20) (rd L 21) (rd L 22) (rd L 23) (rd L 24) (rd L 25) (rd L 26) (rd L 27) P = some true := by
 have h2 := eqPairS_l0 P (by omega) P.length (P.length + 1) 0 (by omega) (by omega)
 rw [show ((0 : Nat) : Int) = 0 from rfl] at h2
 unfold laws_eqFace.f eqFaceF laws_eqPairS.f
 rw [if_pos ⟨rfl, rfl, rfl⟩, if_pos rfl, h2]
theorem markPairS_l0 : ∀ (d k n : Nat) (P : List Pr) (m : Int), n + d = P.length → d < k → P.length ≤ 4611686018427387904 → 0 ≤ m → m + 3 * d ≤ 9223372036854775807 → ∃ P', laws_markPairS.l0 k P m n = some (m + 3 * d, P')
 | 0, k, n, P, m, hd, hk, hP, hm, hm2 => by
  obtain ⟨k, rfl⟩ := some_k hk
  rw [laws_markPairS.l0, if_neg (by omega)]
  exact ⟨P, by simp⟩
 | d + 1, k, n, P, m, hd, hk, hP, hm, hm2 => by
  obtain ⟨k, rfl⟩ := some_k hk
  rw [laws_markPairS.l0, if_pos (by omega), if_pos (by omega), Option.bind_some, Option.bind_some, wrap_succ n (by omega), w64 (x := m + 1) (by omega) (by omega), w64 (x := m + 1 + 1) (by omega) (by omega), w64 (x := m + 1 + 1 + 1) (by omega) (by omega)]
  rw [show m + 3 * ((d + 1 : Nat) : Int) = m + 1 + 1 + 1 + 3 * (d : Int) by omega]
  exact markPairS_l0 d k (n + 1) _ (m + 1 + 1 + 1) (by simp only [List.length_set]; omega) (by omega) (by simp only [List.length_set]; omega) (by omega) (by omega)
theorem size_le {lp : List LP} (h : lp.length ≤ 1048576) : (lp.map toP).length ≤ 1048576 := by rwa [List.length_map]
end Go.Proofs.YticjkfacdmmopaaDoor.Pure
namespace Go.Proofs.YticjkfacdmmopaaDoor.Ext
end Go.Proofs.YticjkfacdmmopaaDoor.Ext
namespace Go.Proofs.YticjkfacdmmopaaDoor.Q
open Go.Proofs.YticjkfacdmmopaaDoor.Ext
open Go.RowKit Go.Proofs.YticjkfacdmmopaaDoorW.PrintWords Go.Proofs.YticjkfacdmmopaaDoorW.PrintLast Go.Proofs.YticjkfacdmmopaaDoorW.PrintMore
attribute [local go_sem] max2_int min2_int max_two min_two max_three min_three max_four min_four
set_option linter.unusedVariables false
set_option linter.unusedSimpArgs false
def laws_szStringS.l0 : Nat → List ByteArray → Int → Int → Option (Int)
 | 0, _, _, _ => none
 | k + 1, x0, x1, x5 => if x5 < (x0.length : Int) then (if 0 ≤ x5 then (if (wrap64 (x1 - ((rdOf ByteArray.empty x0 x5).size : Int))) < 0 then (some (-1)) else (laws_szStringS.l0 k x0 (wrap64 (x1 - ((rdOf ByteArray.empty x0 x5).size : Int))) (wrap64 (x5 + 1)))) else (none)) else (some x1)
def laws_szStringS.f (k : Nat) (l0 : List ByteArray) (a1 : Int) : Option (Int) := if (wrap64 (a1 - (l0.length : Int))) < 0 then (some (-1)) else (laws_szStringS.l0 k l0 (wrap64 (a1 - (l0.length : Int))) 0)
set_option maxHeartbeats 8000000 in
set_option maxRecDepth 100000 in
theorem laws_szStringS.calls (k : Nat) (A0 : Option Addr) (c0 : Nat) (l0 : List ByteArray) (a1 : Int) (r : Int) (w : World) (hr0 : Kd.C Kd.string w A0 l0.length l0) (hc0 : l0.length ≤ c0) (h : laws_szStringS.f k l0 a1 = some r) :
  Calls Tryd.prog 39 #[.slice A0 l0.length c0, .int .i64 a1] w fun e w' => e = .returned (.int .i64 r) ∧ Drawn0 w w' := by
 have HR0 := Aside0.mk hr0
 have HC0 := Aside0.mk hc0
 clear hr0 hc0
 have H : (if (wrap64 (a1 - (l0.length : Int))) < 0 then (some (-1)) else (laws_szStringS.l0 k l0 (wrap64 (a1 - (l0.length : Int))) 0)) = some r := h
 clear h
 by_cases c3 : (wrap64 (a1 - (l0.length : Int))) < 0
 ·rw [if_pos c3] at H
  have c3b0 : decide ((wrap64 (a1 - (l0.length : Int))) < 0) = true := decide_eq_true c3
  clear c3
  obtain rfl := Option.some.inj H
  go_enter Tryd.func39, Tryd.ntmps39
  go_wp2
  go_ret
  exact ⟨by first | rfl | (simp; done) | (simp [*]; done), by repeat (first | exact Drawn0.refl _ | apply Drawn0.step)⟩
 ·rw [if_neg c3] at H
  have c3b0 : decide ((wrap64 (a1 - (l0.length : Int))) < 0) = false := decide_eq_false c3
  clear c3
  have H' := Aside0.mk H
  clear H
  go_enter Tryd.func39, Tryd.ntmps39
  go_wp2
  go_loopg [1, 5] k (fun kq v1 v5 w' => ∃ (x1_1 : Int) (x5_1 : Int), v1 = .int .i64 x1_1 ∧ v5 = .int .i64 x5_1 ∧ Aside0 (laws_szStringS.l0 kq l0 x1_1 x5_1 = some r) ∧ Aside0 (kq ≤ k) ∧ Drawn0 w w')
  case atStart => exact ⟨(wrap64 (a1 - (l0.length : Int))), (0), (by first | rfl | (simp; done) | (simp [*]; done)), (by first | rfl | (simp; done) | (simp [*]; done)), H', ⟨Nat.le_refl _⟩, by repeat (first | exact Drawn0.refl _ | apply Drawn0.step)⟩
  case round =>
   clear H'
   try clear p2
   try clear c3
   try clear c3b0
   obtain ⟨x1_1, x5_1, rfl, rfl, HA, HK1, ⟨m1, rfl⟩⟩ := hrel
   cases gk with
   | zero => exact absurd HA.out (by simp [laws_szStringS.l0])
   | succ k1 =>
    have H := HA.out
    clear HA
    simp only [laws_szStringS.l0] at H
    by_cases c4 : x5_1 < (l0.length : Int)
    ·rw [if_pos c4] at H
     have c4b0 : decide (x5_1 < (l0.length : Int)) = true := decide_eq_true c4
     clear c4
     by_cases c5 : 0 ≤ x5_1
     ·rw [if_pos c5] at H
      have c5b0 : decide (0 ≤ x5_1) = true := decide_eq_true c5
      clear c5
      by_cases c6 : (wrap64 (x1_1 - ((rdOf ByteArray.empty l0 x5_1).size : Int))) < 0
      ·rw [if_pos c6] at H
       have c6b0 : decide ((wrap64 (x1_1 - ((rdOf ByteArray.empty l0 x5_1).size : Int))) < 0) = true := decide_eq_true c6
       clear c6
       obtain rfl := Option.some.inj H
       have p1208 : 0 ≤ (x5_1 : Int) := of_decide_eq_true (by first | (with_reducible assumption) | assumption)
       have q1208 : x5_1 < (l0.length : Int) := of_decide_eq_true (by first | (with_reducible assumption) | assumption)
       obtain ⟨ad1208, e1208, hx1208_0⟩ := Kd.at_string HR0.out x5_1 p1208 q1208
       cases e1208
       replace p1208 := eq_true p1208
       replace q1208 := eq_true q1208
       go_wp2
       go_ret
       exact ⟨by first | rfl | (simp; done) | (simp [*]; done), by repeat (first | exact Drawn0.refl _ | apply Drawn0.step)⟩
      ·rw [if_neg c6] at H
       have c6b0 : decide ((wrap64 (x1_1 - ((rdOf ByteArray.empty l0 x5_1).size : Int))) < 0) = false := decide_eq_false c6
       clear c6
       have H' := Aside0.mk H
       clear H
       have p1208 : 0 ≤ (x5_1 : Int) := of_decide_eq_true (by first | (with_reducible assumption) | assumption)
       have q1208 : x5_1 < (l0.length : Int) := of_decide_eq_true (by first | (with_reducible assumption) | assumption)
       obtain ⟨ad1208, e1208, hx1208_0⟩ := Kd.at_string HR0.out x5_1 p1208 q1208
       cases e1208
       replace p1208 := eq_true p1208
       replace q1208 := eq_true q1208
       go_wp2
       go_roundg k1
       case measure => have := HK1.out; omega
       case rel => exact ⟨(wrap64 (x1_1 - ((rdOf ByteArray.empty l0 x5_1).size : Int))), (wrap64 (x5_1 + 1)), (by first | rfl | (simp; done) | (simp [*]; done)), (by first | rfl | (simp; done) | (simp [*]; done)), H', ⟨by have := HK1.out; omega⟩, by repeat (first | exact Drawn0.refl _ | apply Drawn0.step)⟩
     ·rw [if_neg c5] at H
      exact absurd H (by simp)
    ·rw [if_neg c4] at H
     have c4b0 : decide (x5_1 < (l0.length : Int)) = false := decide_eq_false c4
     clear c4
     obtain rfl := Option.some.inj H
     go_wp2
     go_ret
     exact ⟨by first | rfl | (simp; done) | (simp [*]; done), by repeat (first | exact Drawn0.refl _ | apply Drawn0.step)⟩
def laws_toStringS.l0 : Nat → List ByteArray → List ByteArray → Int → Option (List ByteArray)
 | 0, _, _, _ => none
 | k + 1, x0, x3, x4 => if x4 < (x0.length : Int) then (if 0 ≤ x4 then (if x4 < (x3.length : Int) then (laws_toStringS.l0 k x0 (x3.set (x4 : Int).toNat (rdOf ByteArray.empty x0 x4)) (wrap64 (x4 + 1))) else (none)) else (none)) else (some x3)
def laws_toStringS.f (k : Nat) (l0 : List ByteArray) : Option (List ByteArray) := if 0 ≤ (l0.length : Int) then (if ((l0.length : Int) : Int).toNat ≤ 17592186044416 then (laws_toStringS.l0 k l0 (List.replicate ((l0.length : Int) : Int).toNat (⟨#[]⟩ : ByteArray)) 0) else (none)) else (none)
set_option maxHeartbeats 8000000 in
set_option maxRecDepth 100000 in
theorem laws_toStringS.calls (k : Nat) (A0 : Option Addr) (c0 : Nat) (l0 : List ByteArray) (r : List ByteArray) (w : World) (hr0 : Kd.C Kd.string w A0 l0.length l0) (hc0 : l0.length ≤ c0) (h : laws_toStringS.f k l0 = some r) :
  Calls Tryd.prog 41 #[.slice A0 l0.length c0] w fun e w' => ∃ v0_ : Value, e = .returned (v0_) ∧ Kd.R Kd.string 9 w' w.heap.size (fun _ => True) v0_ r ∧ Below w.heap.size w w' := by
 have HR0 := Aside0.mk hr0
 have HC0 := Aside0.mk hc0
 clear hr0 hc0
 have HB := Aside0.mk (Below.refl w.heap.size w)
 have H : (if 0 ≤ (l0.length : Int) then (if ((l0.length : Int) : Int).toNat ≤ 17592186044416 then (laws_toStringS.l0 k l0 (List.replicate ((l0.length : Int) : Int).toNat (⟨#[]⟩ : ByteArray)) 0) else (none)) else (none)) = some r := h
 clear h
 by_cases c2 : 0 ≤ (l0.length : Int)
 ·rw [if_pos c2] at H
  have c2b0 := eq_true c2
  have c2b1 : decide (0 ≤ (l0.length : Int)) = true := decide_eq_true c2
  clear c2
  by_cases c3 : ((l0.length : Int) : Int).toNat ≤ 17592186044416
  ·rw [if_pos c3] at H
   have c3b0 := eq_true c3
   have c3b1 : decide (((l0.length : Int) : Int).toNat ≤ 17592186044416) = true := decide_eq_true c3
   clear c3
   obtain ⟨y1213, hy1213⟩ : ∃ y_ : List ByteArray, y_ = (List.replicate ((l0.length : Int) : Int).toNat (⟨#[]⟩ : ByteArray)) := ⟨_, rfl⟩
   replace H : (laws_toStringS.l0 k l0 y1213 0) = some r := by first | (rw [hy1213]; with_reducible exact H) | (have H2_ := (Option.bind_some _ _).symm.trans H; rw [hy1213]; with_reducible exact H2_) | (have H2_ := (Option.bind_some _ _).symm.trans H; with_reducible exact H2_) | with_reducible exact H | (rw [hy1213]; exact H) | exact H
   have Ny1213 := Aside0.mk hy1213
   clear hy1213
   have H' := Aside0.mk H
   clear H
   go_enter Tryd.func41, Tryd.ntmps41
   go_wp2_with (first | ((with_reducible refine gate_dst (N := 7) rfl ?_); refine Kd.R_make Kd.string _ 9 rfl (N := 7) rfl 48 _ _ rfl (l0.length : Int) rfl rfl Tryd.underlying48 (.string ⟨#[]⟩) 16 info9 rfl (by decide) (by omega) (⟨#[]⟩ : ByteArray) (ok := fun _ => True) (okp := fun _ => True) rfl (fun _ hk => hk) trivial (of_decide_eq_true (by first | (with_reducible assumption) | assumption)) (Nat.le_trans (Nat.mul_le_mul_right _ (of_decide_eq_true (by first | (with_reducible assumption) | assumption) : (l0.length : Int).toNat ≤ 17592186044416)) (by omega)) (Below.refl _ _) (Nat.le_refl _) ?_; intro v1214 w4 ho5 hb hg_ hnew_; clear hg_ hnew_; (first | rw [← Ny1213.out] at ho5 | (simp only [Int.reduceToNat] at ho5; rw [← Ny1213.out] at ho5)); have n0_ := Aside0.mk (Kd.R_lower ho5 (below_size (by repeat (first | (with_reducible first | exact HB.out | apply bwA | apply pwN | apply bw1) | exact HB.out)))); have n1_ := Aside0.mk (below_step (by repeat (first | (with_reducible first | exact HB.out | apply bwA | apply pwN | apply bw1) | exact HB.out)) hb); clear HB; have HO1215 := n0_; have HB := n1_; clear n0_ n1_; clear hb ho5))
   go_loopg [4] k (fun kq v4 w' => ∃ (x3_1 : List ByteArray) (x4_1 : Int), v4 = .int .i64 x4_1 ∧ Aside0 (laws_toStringS.l0 kq l0 x3_1 x4_1 = some r) ∧ Aside0 (kq ≤ k) ∧ Aside0 (Kd.R Kd.string 9 w' w.heap.size (fun _ => True) v1214 x3_1) ∧ Aside0 (Below w.heap.size w w'))
   case atStart => exact ⟨(y1213), (0), (by first | rfl | (simp; done) | (simp [*]; done)), H', ⟨Nat.le_refl _⟩, ⟨by (with_reducible repeat (first | apply Kd.R_alloc | apply Kd.R_drewN | apply Kd.R_drew)); exact HO1215.out⟩, ⟨by repeat (first | (with_reducible first | exact HB.out | apply bwA | apply pwN | apply bw1) | exact HB.out)⟩⟩
   case round =>
    clear H'
    try clear c2
    try clear c2b0
    try clear c2b1
    try clear p2
    try clear c3
    try clear c3b0
    try clear c3b1
    try clear c4
    obtain ⟨x3_1, x4_1, rfl, HA, HK1, HO_3, HB⟩ := hrel
    cases gk with
    | zero => exact absurd HA.out (by simp [laws_toStringS.l0])
    | succ k1 =>
     have H := HA.out
     clear HA
     simp only [laws_toStringS.l0] at H
     by_cases c6 : x4_1 < (l0.length : Int)
     ·rw [if_pos c6] at H
      have c6b0 : decide (x4_1 < (l0.length : Int)) = true := decide_eq_true c6
      clear c6
      by_cases c7 : 0 ≤ x4_1
      ·rw [if_pos c7] at H
       have c7b0 : decide (0 ≤ x4_1) = true := decide_eq_true c7
       clear c7
       by_cases c8 : x4_1 < (x3_1.length : Int)
       ·rw [if_pos c8] at H
        have c8b0 : decide (x4_1 < (x3_1.length : Int)) = true := decide_eq_true c8
        clear c8
        obtain ⟨y1217, hy1217⟩ : ∃ y_ : List ByteArray, y_ = (x3_1.set (x4_1 : Int).toNat (rdOf ByteArray.empty l0 x4_1)) := ⟨_, rfl⟩
        replace H : (laws_toStringS.l0 k1 l0 y1217 (wrap64 (x4_1 + 1))) = some r := by first | (rw [hy1217]; with_reducible exact H) | (have H2_ := (Option.bind_some _ _).symm.trans H; rw [hy1217]; with_reducible exact H2_) | (have H2_ := (Option.bind_some _ _).symm.trans H; with_reducible exact H2_) | with_reducible exact H | (rw [hy1217]; exact H) | exact H
        have Ny1217 := Aside0.mk hy1217
        clear hy1217
        have H' := Aside0.mk H
        clear H
        have p1216 : 0 ≤ (x4_1 : Int) := of_decide_eq_true (by first | (with_reducible assumption) | assumption)
        have q1216 : x4_1 < (l0.length : Int) := of_decide_eq_true (by first | (with_reducible assumption) | assumption)
        obtain ⟨ad1216, e1216, hx1216_0⟩ := Kd.at_string HR0.out x4_1 p1216 q1216
        cases e1216
        replace hx1216_0 := (HB.out.cell (World.block_lt_of_cell? w _ hx1216_0)).trans hx1216_0
        replace p1216 := eq_true p1216
        replace q1216 := eq_true q1216
        have p9 : 0 ≤ (x4_1 : Int) := of_decide_eq_true (by first | (with_reducible assumption) | assumption)
        have q9 : (x4_1 : Int) < ((x3_1.length : Int) : Int) := of_decide_eq_true (by first | (with_reducible assumption) | assumption)
        obtain ⟨go9, co9, eo9, gb9, gl9, cl9, HG9⟩ := Kd.R_form HO_3.out (by omega)
        (first | cases eo9 | (injection eo9 with ea_ en_ ec_; (first | subst ea_ | (injection ea_ with ea_; subst ea_)); subst ec_; clear en_))
        have GB9 := Aside0.mk gb9
        have GG9 := Aside0.mk HG9
        clear gb9 gl9 HG9
        obtain ⟨hx9_0, hf9_0⟩ := Kd.R_celln (⟨#[]⟩ : ByteArray) HO_3.out (x4_1 : Int) p9 q9
        replace p9 := eq_true p9
        replace q9 := eq_true q9
        have HP10 := Kd.R_putg HO_3.out (x4_1 : Int) (rdOf ByteArray.empty l0 x4_1)
        go_wp2_with (first | ((with_reducible refine gate_store (t := 9) (p := 20) rfl ?_); refine store_event (t := 9) (p := 20) (v := ?vo_w11) (w1 := (wr.setCell ⟨go9, (x4_1 : Int).toNat, none⟩ (.string (rdOf ByteArray.empty l0 x4_1)))) ?hg ?ho ?hn ?hr ?_; (case ho => rfl); (case hg => rfl); (case hn => rfl); (case hr => first | (go_simp; done) | (go_simp; rfl)); intro w11 hw; have hg : wr.grownBy w11 (some go9) := (by rw [hw]; exact HP10.2); have hp_ : Kd.R Kd.string 9 w11 w.heap.size (fun _ => True) (.slice (some ⟨go9, 0, none⟩) x3_1.length co9) y1217 := (by rw [hw, Ny1217.out]; exact HP10.1); clear HP10; have n0_ := Aside0.mk (hp_); have n1_ := Aside0.mk ((by rw [hw]; exact below_set (HB.out) GB9.out : Below w.heap.size w w11)); clear HO_3; clear HB; have HO_3 := n0_; have HB := n1_; clear n0_ n1_; clear hg hw hp_))
        go_roundg k1
        case measure => have := HK1.out; omega
        case rel => exact ⟨(y1217), (wrap64 (x4_1 + 1)), (by first | rfl | (simp; done) | (simp [*]; done)), H', ⟨by have := HK1.out; omega⟩, ⟨by (with_reducible repeat (first | apply Kd.R_alloc | apply Kd.R_drewN | apply Kd.R_drew)); exact HO_3.out⟩, ⟨by repeat (first | (with_reducible first | exact HB.out | apply bwA | apply pwN | apply bw1) | exact HB.out)⟩⟩
       ·rw [if_neg c8] at H
        exact absurd H (by simp)
      ·rw [if_neg c7] at H
       exact absurd H (by simp)
     ·rw [if_neg c6] at H
      have c6b0 : decide (x4_1 < (l0.length : Int)) = false := decide_eq_false c6
      clear c6
      obtain rfl := Option.some.inj H
      go_wp2
      go_ret
      exact ⟨_, by first | rfl | (simp [errW_none, errW_some] <;> rfl) | (simp [*, errW_none, errW_some] <;> rfl), by (with_reducible repeat (first | apply Kd.R_alloc | apply Kd.R_drewN | apply Kd.R_drew)); exact HO_3.out, by repeat (first | (with_reducible first | exact HB.out | apply bwA | apply pwN | apply bw1) | exact HB.out)⟩
  ·rw [if_neg c3] at H
   exact absurd H (by simp)
 ·rw [if_neg c2] at H
  exact absurd H (by simp)
end Go.Proofs.YticjkfacdmmopaaDoor.Q
namespace Go.Proofs.YticjkfacdmmopaaDoor.Ext
end Go.Proofs.YticjkfacdmmopaaDoor.Ext
namespace Go.Proofs.YticjkfacdmmopaaDoor.Q
open Go.Proofs.YticjkfacdmmopaaDoor.Ext
open Go.RowKit Go.Proofs.YticjkfacdmmopaaDoorW.PrintWords Go.Proofs.YticjkfacdmmopaaDoorW.PrintLast Go.Proofs.YticjkfacdmmopaaDoorW.PrintMore
attribute [local go_sem] max2_int min2_int max_two min_two max_three min_three max_four min_four
set_option linter.unusedVariables false
set_option linter.unusedSimpArgs false
def laws_eqStringS.l0 : Nat → List ByteArray → List ByteArray → Int → Option (Bool)
 | 0, _, _, _ => none
 | k + 1, x0, x1, x5 => if x5 < (x0.length : Int) then (if 0 ≤ x5 then (if x5 < (x1.length : Int) then (if (rdOf ByteArray.empty x0 x5).toList = (rdOf ByteArray.empty x1 x5).toList then (laws_eqStringS.l0 k x0 x1 (wrap64 (x5 + 1))) else (some false)) else (none)) else (none)) else (some true)
def laws_eqStringS.f (k : Nat) (l0 : List ByteArray) (l1 : List ByteArray) : Option (Bool) := if (l0.length : Int) = (l1.length : Int) then (laws_eqStringS.l0 k l0 l1 0) else (some false)
set_option maxHeartbeats 8000000 in
set_option maxRecDepth 100000 in
theorem laws_eqStringS.calls (k : Nat) (A0 : Option Addr) (c0 : Nat) (l0 : List ByteArray) (A1 : Option Addr) (c1 : Nat) (l1 : List ByteArray) (r : Bool) (w : World) (hr0 : Kd.C Kd.string w A0 l0.length l0) (hc0 : l0.length ≤ c0) (hr1 : Kd.C Kd.string w A1 l1.length l1) (hc1 : l1.length ≤ c1) (h : laws_eqStringS.f k l0 l1 = some r) :
  Calls Tryd.prog 43 #[.slice A0 l0.length c0, .slice A1 l1.length c1] w fun e w' => e = .returned (.bool r) ∧ Drawn0 w w' := by
 have HR0 := Aside0.mk hr0
 have HC0 := Aside0.mk hc0
 clear hr0 hc0
 have HR1 := Aside0.mk hr1
 have HC1 := Aside0.mk hc1
 clear hr1 hc1
 have H : (if (l0.length : Int) = (l1.length : Int) then (laws_eqStringS.l0 k l0 l1 0) else (some false)) = some r := h
 clear h
 by_cases c3 : (l0.length : Int) = (l1.length : Int)
 ·rw [if_pos c3] at H
  have c3b0 : ((l0.length : Int) == (l1.length : Int)) = true := beq_iff_eq.mpr c3
  have c3b1 : ((l0.length : Int) != (l1.length : Int)) = false := bne_eq_false_iff_eq.mpr c3
  have c3b2 : (l0.length == l1.length) = true := by first | simpa using c3 | (simp at c3 ⊢; omega)
  clear c3
  have H' := Aside0.mk H
  clear H
  go_enter Tryd.func43, Tryd.ntmps43
  go_wp2
  repeat (go_quiet (fail); try go_wp2)
  go_loopg [5] k (fun kq v5 w' => ∃ (x5_1 : Int), v5 = .int .i64 x5_1 ∧ Aside0 (laws_eqStringS.l0 kq l0 l1 x5_1 = some r) ∧ Aside0 (kq ≤ k) ∧ Drawn0 w w')
  case atStart => exact ⟨(0), (by first | rfl | (simp; done) | (simp [*]; done)), H', ⟨Nat.le_refl _⟩, by repeat (first | exact Drawn0.refl _ | apply Drawn0.step)⟩
  case round =>
   clear H'
   try clear c1
   try clear p2
   try clear c3
   try clear c3b0
   try clear c3b1
   try clear c3b2
   obtain ⟨x5_1, rfl, HA, HK1, ⟨m1, rfl⟩⟩ := hrel
   cases gk with
   | zero => exact absurd HA.out (by simp [laws_eqStringS.l0])
   | succ k1 =>
    have H := HA.out
    clear HA
    simp only [laws_eqStringS.l0] at H
    by_cases c4 : x5_1 < (l0.length : Int)
    ·rw [if_pos c4] at H
     have c4b0 : decide (x5_1 < (l0.length : Int)) = true := decide_eq_true c4
     clear c4
     by_cases c5 : 0 ≤ x5_1
     ·rw [if_pos c5] at H
      have c5b0 : decide (0 ≤ x5_1) = true := decide_eq_true c5
      clear c5
      by_cases c6 : x5_1 < (l1.length : Int)
      ·rw [if_pos c6] at H
       have c6b0 : decide (x5_1 < (l1.length : Int)) = true := decide_eq_true c6
       clear c6
       by_cases c7 : (rdOf ByteArray.empty l0 x5_1).toList = (rdOf ByteArray.empty l1 x5_1).toList
       ·rw [if_pos c7] at H
        have c7b0 : ((rdOf ByteArray.empty l0 x5_1).toList == (rdOf ByteArray.empty l1 x5_1).toList) = true := beq_iff_eq.mpr c7
        have c7b1 : ((rdOf ByteArray.empty l0 x5_1).toList != (rdOf ByteArray.empty l1 x5_1).toList) = false := bne_eq_false_iff_eq.mpr c7
        clear c7
        have H' := Aside0.mk H
        clear H
        have p1224 : 0 ≤ (x5_1 : Int) := of_decide_eq_true (by first | (with_reducible assumption) | assumption)
        have q1224 : x5_1 < (l0.length : Int) := of_decide_eq_true (by first | (with_reducible assumption) | assumption)
        obtain ⟨ad1224, e1224, hx1224_0⟩ := Kd.at_string HR0.out x5_1 p1224 q1224
        cases e1224
        replace p1224 := eq_true p1224
        replace q1224 := eq_true q1224
        have p1225 : 0 ≤ (x5_1 : Int) := of_decide_eq_true (by first | (with_reducible assumption) | assumption)
        have q1225 : x5_1 < (l1.length : Int) := of_decide_eq_true (by first | (with_reducible assumption) | assumption)
        obtain ⟨ad1225, e1225, hx1225_0⟩ := Kd.at_string HR1.out x5_1 p1225 q1225
        cases e1225
        replace p1225 := eq_true p1225
        replace q1225 := eq_true q1225
        go_wp2
        repeat (go_quiet (fail); try go_wp2)
        go_roundg k1
        case measure => have := HK1.out; omega
        case rel => exact ⟨(wrap64 (x5_1 + 1)), (by first | rfl | (simp; done) | (simp [*]; done)), H', ⟨by have := HK1.out; omega⟩, by repeat (first | exact Drawn0.refl _ | apply Drawn0.step)⟩
       ·rw [if_neg c7] at H
        have c7b0 : ((rdOf ByteArray.empty l0 x5_1).toList == (rdOf ByteArray.empty l1 x5_1).toList) = false := beq_eq_false_iff_ne.mpr c7
        have c7b1 : ((rdOf ByteArray.empty l0 x5_1).toList != (rdOf ByteArray.empty l1 x5_1).toList) = true := bne_iff_ne.mpr c7
        obtain rfl := Option.some.inj H
        have p1224 : 0 ≤ (x5_1 : Int) := of_decide_eq_true (by first | (with_reducible assumption) | assumption)
        have q1224 : x5_1 < (l0.length : Int) := of_decide_eq_true (by first | (with_reducible assumption) | assumption)
        obtain ⟨ad1224, e1224, hx1224_0⟩ := Kd.at_string HR0.out x5_1 p1224 q1224
        cases e1224
        replace p1224 := eq_true p1224
        replace q1224 := eq_true q1224
        have p1225 : 0 ≤ (x5_1 : Int) := of_decide_eq_true (by first | (with_reducible assumption) | assumption)
        have q1225 : x5_1 < (l1.length : Int) := of_decide_eq_true (by first | (with_reducible assumption) | assumption)
        obtain ⟨ad1225, e1225, hx1225_0⟩ := Kd.at_string HR1.out x5_1 p1225 q1225
        cases e1225
        replace p1225 := eq_true p1225
        replace q1225 := eq_true q1225
        go_wp2
        repeat (go_quiet (fail); try go_wp2)
        go_ret
        exact ⟨by first | rfl | (simp; done) | (simp [*]; done), by repeat (first | exact Drawn0.refl _ | apply Drawn0.step)⟩
      ·rw [if_neg c6] at H
       exact absurd H (by simp)
     ·rw [if_neg c5] at H
      exact absurd H (by simp)
    ·rw [if_neg c4] at H
     have c4b0 : decide (x5_1 < (l0.length : Int)) = false := decide_eq_false c4
     clear c4
     obtain rfl := Option.some.inj H
     go_wp2
     repeat (go_quiet (fail); try go_wp2)
     go_ret
     exact ⟨by first | rfl | (simp; done) | (simp [*]; done), by repeat (first | exact Drawn0.refl _ | apply Drawn0.step)⟩
 ·rw [if_neg c3] at H
  have c3b0 : ((l0.length : Int) == (l1.length : Int)) = false := beq_eq_false_iff_ne.mpr c3
  have c3b1 : ((l0.length : Int) != (l1.length : Int)) = true := bne_iff_ne.mpr c3
  have c3b2 : (l0.length == l1.length) = false := by first | simpa using c3 | (simp at c3 ⊢; omega)
  obtain rfl := Option.some.inj H
  go_enter Tryd.func43, Tryd.ntmps43
  go_wp2
  repeat (go_quiet (fail); try go_wp2)
  go_ret
  exact ⟨by first | rfl | (simp; done) | (simp [*]; done), by repeat (first | exact Drawn0.refl _ | apply Drawn0.step)⟩
end Go.Proofs.YticjkfacdmmopaaDoor.Q
namespace Go.Proofs.YticjkfacdmmopaaDoor.Pure
open Go.RowKit Go.Proofs.YticjkfacdmmopaaDoor.Ext Go.Proofs.YticjkfacdmmopaaDoor.Q Go.Proofs.YticjkfacdmmopaaDoorW.PrintWords Go.Proofs.YticjkfacdmmopaaDoorW.PrintLast Go.Proofs.YticjkfacdmmopaaDoorW.PrintMore
set_option linter.unusedVariables false
set_option linter.unusedSimpArgs false
set_option maxRecDepth 100000
theorem rdOf_get (l : List ByteArray) (i : Nat) (h : i < l.length) : rdOf ByteArray.empty l (i : Int) = l[i] := by
 unfold rdOf
 rw [Int.toNat_natCast, List.getD_eq_getElem?_getD, List.getElem?_eq_getElem h]
 rfl
theorem szS_l0 (l : List ByteArray) (hn : l.length ≤ 1048576) (hs : ∀ s ∈ l, s.size ≤ 9223372036854775807) : ∀ (d k i : Nat) (x : Int), i + d = l.length → d < k → 0 ≤ x → x ≤ 1048576 → ∃ r, laws_szStringS.l0 k l x i = some r ∧ (r < 0 ∨ ∀ s ∈ l.drop i, s.size ≤ 1048576)
 | 0, k, i, x, hd, hk, h0, h1 => by
  obtain ⟨k, rfl⟩ := some_k hk
  rw [laws_szStringS.l0, if_neg (by omega), List.drop_eq_nil_of_le (by omega)]
  exact ⟨x, rfl, .inr (by simp)⟩
 | d + 1, k, i, x, hd, hk, h0, h1 => by
  obtain ⟨k, rfl⟩ := some_k hk
  have hi : i < l.length := by omega
  have hz := hs _ (List.getElem_mem hi)
  rw [laws_szStringS.l0, if_pos (by omega), if_pos (by omega), rdOf_get l i hi, w64 (x := x - (l[i].size : Int)) (by omega) (by omega), wrap_succ i (by omega)]
  by_cases h : x - (l[i].size : Int) < 0
  ·rw [if_pos h]
   exact ⟨-1, rfl, .inl (by omega)⟩
  ·rw [if_neg h]
   obtain ⟨r, hr, hr2⟩ := szS_l0 l hn hs d k (i + 1) _ (by omega) (by omega) (by omega : 0 ≤ x - (l[i].size : Int)) (by omega)
   refine ⟨r, hr, hr2.imp id fun hh => ?_⟩
   rw [List.drop_eq_getElem_cons hi]
   intro s hs'
   rcases List.mem_cons.1 hs' with rfl | hs'
   ·omega
   ·exact hh s hs'
theorem szS_eq (l : List ByteArray) (hn : l.length ≤ 9223372036854775807) (hs : ∀ s ∈ l, s.size ≤ 9223372036854775807) (x : Int) (h0 : 0 ≤ x) (h1 : x ≤ 1048576) {k : Nat} (hk : 1048576 < k) : ∃ r, laws_szStringS.f k l x = some r ∧ (r < 0 ∨ l.length ≤ 1048576 ∧ ∀ s ∈ l, s.size ≤ 1048576) := by
 unfold laws_szStringS.f
 rw [w64 (x := x - (l.length : Int)) (by omega) (by omega)]
 by_cases h : x - (l.length : Int) < 0
 ·rw [if_pos h]
  exact ⟨-1, rfl, .inl (by omega)⟩
 ·rw [if_neg h]
  obtain ⟨r, hr, hr2⟩ := szS_l0 l (by omega) hs l.length k 0 (x - (l.length : Int)) (by omega) (by omega) (by omega) (by omega)
  rw [show ((0 : Nat) : Int) = 0 from rfl] at hr
  exact ⟨r, hr, hr2.imp id fun hh => ⟨by omega, hh⟩⟩
theorem toS_l0 (l : List ByteArray) (hl : l.length ≤ 1048576) : ∀ (d k n : Nat) (x : List ByteArray), n + d = l.length → d < k → x.length = l.length → x.take n = l.take n → laws_toStringS.l0 k l x n = some l
 | 0, k, n, x, hd, hk, hx, ht => by
  obtain ⟨k, rfl⟩ := some_k hk
  rw [laws_toStringS.l0, if_neg (by omega)]
  obtain rfl : n = l.length := by omega
  rw [List.take_length, ← hx, List.take_length] at ht
  rw [ht]
 | d + 1, k, n, x, hd, hk, hx, ht => by
  obtain ⟨k, rfl⟩ := some_k hk
  have hn : n < l.length := by omega
  rw [laws_toStringS.l0, if_pos (by omega), if_pos (by omega), if_pos (by omega), wrap_succ n (by omega), rdOf_get l n hn, Int.toNat_natCast]
  refine toS_l0 l hl d k (n + 1) _ (by omega) (by omega) (by simpa using hx) ?_
  rw [List.take_succ_eq_append_getElem (by simp; omega), List.take_set, List.set_eq_of_length_le (by simp; omega), ht, List.take_succ_eq_append_getElem hn]
  simp
theorem toS_eq (l : List ByteArray) (hl : l.length ≤ 1048576) {k : Nat} (hk : 1048576 < k) : laws_toStringS.f k l = some l := by
 unfold laws_toStringS.f
 rw [if_pos (by omega), if_pos (by omega)]
 have h := toS_l0 l hl l.length k 0 (List.replicate ((l.length : Int)).toNat (⟨#[]⟩ : ByteArray)) (by omega) (by omega) (by simp) (by simp)
 exact h
theorem eqS_l0 (l : List ByteArray) (hl : l.length ≤ 1048576) : ∀ (d k n : Nat), n + d = l.length → d < k → laws_eqStringS.l0 k l l n = some true
 | 0, k, n, hd, hk => by
  obtain ⟨k, rfl⟩ := some_k hk
  rw [laws_eqStringS.l0, if_neg (by omega)]
 | d + 1, k, n, hd, hk => by
  obtain ⟨k, rfl⟩ := some_k hk
  rw [laws_eqStringS.l0, if_pos (by omega), if_pos (by omega), if_pos (by omega), if_pos rfl, wrap_succ n (by omega)]
  exact eqS_l0 l hl d k (n + 1) (by omega) (by omega)
theorem eqS_self (l : List ByteArray) (hl : l.length ≤ 1048576) {k : Nat} (hk : 1048576 < k) : laws_eqStringS.f k l l = some true := by
 unfold laws_eqStringS.f
 rw [if_pos rfl]
 exact eqS_l0 l hl l.length k 0 (by omega) (by omega)
open Go.RowKit Go.Proofs.YticjkfacdmmopaaDoor.Ext Go.Proofs.YticjkfacdmmopaaDoor.Q Go.Proofs.YticjkfacdmmopaaDoor.Txt Go.Proofs.YticjkfacdmmopaaDoor.Face Go.Proofs.YticjkfacdmmopaaDoorW.PrintWords Go.Proofs.YticjkfacdmmopaaDoorW.PrintLast Go.Proofs.YticjkfacdmmopaaDoorW.PrintMore
theorem faceV_all (L : List Int) (hl : L.length = 28) (A : Option Addr) (n c : Nat) : faceV L A n c = #[.int .i8 (rd L 0), .int .i8 (rd L 1), .int .i8 (rd L 2), .int .i8 (rd L 3), .int .i8 (rd L 4), .int .i8 (rd L 5), .int .i8 (rd L 6), .int .i8 (rd L 7), .int .i8 (rd L 8), .int .i8 (rd L 9), .int .i8 (rd L 10), .int .i8 (rd L 11), .int .i8 (rd L 12), .int .i8 (rd L 13), .int .i8 (rd L 14), .int .i8 (rd L 15), .int .i8 (rd L 16), .int .i8 (rd L 17), .int .i8 (rd L 18), .int .i8 (rd L 19), .int .i8 (rd L 20), .int .i8 (rd L 21), .int .i8 (rd L 22), .int .i8 (rd L 23), .int .i8 (rd L 24), .int .i8 (rd L 25), .int .i8 (rd L 26), .int .i8 (rd L 27), .slice A n c] := by
 have e : faceV [rd L 0, rd L 1, rd L 2, rd L 3, rd L 4, rd L 5, rd L 6, rd L 7, rd L 8, rd L 9, rd L 10, rd L 11, rd L 12, rd L 13, rd L 14, rd L 15, rd L 16, rd L 17, rd L 18, rd L 19, rd L 20, rd L 21, rd L 22, rd L 23, rd L 24, rd L 25, rd L 26, rd L 27] A n c = #[.int .i8 (rd L 0), .int .i8 (rd L 1), .int .i8 (rd L 2), .int .i8 (rd L 3), .int .i8 (rd L 4), .int .i8 (rd L 5), .int .i8 (rd L 6), .int .i8 (rd L 7), .int .i8 (rd L 8), .int .i8 (rd L 9), .int .i8 (rd L 10), .int .i8 (rd L 11), .int .i8 (rd L 12), .int .i8 (rd L 13), .int .i8 (rd L 14), .int .i8 (rd L 15), .int .i8 (rd L 16), .int .i8 (rd L 17), .int .i8 (rd L 18), .int .i8 (rd L 19), .int .i8 (rd L 20), .int .i8 (rd L 21), .int .i8 (rd L 22), .int .i8 (rd L 23), .int .i8 (rd L 24), .int .i8 (rd L 25), .int .i8 (rd L 26), .int .i8 (rd L 27), .slice A n c] := rfl
 rwa [all28 L hl] at e
theorem rng_of {L : List Int} {P : List LP} (hb : ∀ y ∈ L, -128 ≤ y ∧ y ≤ 127) (hp : ∀ p ∈ P, (0 ≤ p.f0 ∧ p.f0 ≤ 255) ∧ (0 ≤ p.f1 ∧ p.f1 ≤ 255) ∧ (-128 ≤ p.f2 ∧ p.f2 ≤ 127)) : rngB L (P.map toP) = true := by
 unfold rngB
 rw [Bool.and_eq_true, List.all_eq_true, List.all_eq_true]
 refine ⟨fun y hy => inB_iff.2 (hb y hy), fun p hq => ?_⟩
 rw [List.mem_map] at hq
 obtain ⟨q, hq, rfl⟩ := hq
 have h := hp q hq
 rw [Bool.and_eq_true, Bool.and_eq_true]
 exact ⟨⟨inB_iff.2 h.1, inB_iff.2 h.2.1⟩, inB_iff.2 h.2.2⟩
end Go.Proofs.YticjkfacdmmopaaDoor.Pure
namespace Go.Proofs.YticjkfacdmmopaaDoor.Ext
open Go.RowKit Go.Proofs.YticjkfacdmmopaaDoorW.PrintWords Go.Proofs.YticjkfacdmmopaaDoorW.PrintLast Go.Proofs.YticjkfacdmmopaaDoorW.PrintMore
set_option linter.unusedVariables false
set_option linter.unusedSimpArgs false
theorem exec_load_row {P : Program} {a : Act} {oi : Oper} {w : World} (ty : TypeId) (x : Operand) (ho : oi.op = .load ty x)
  (g : Nat) (hx : a.eval x = .pointer (some ⟨g, 0, none⟩)) (t : TypeId) (cs : Array Value) (fr : Nat × Nat) (d : TypeDesc) (hg : w.heap[g]? = some (.cells cs t fr))
  (hu : P.underlying ty = some d) (hd : (match d with | .struct _ | .array _ _ => true | _ => false) = true) (hi : (P.info? ty).map (·.size) = some cs.size) :
  (execOp a.eval oi).run P w = .ok (.value (.agg cs)) w := by
 have h := run_loadVar_row w g t ty cs fr d hg hu hd hi
 unfold execOp
 simp only [ho, hx, Instr.loadAt, Instr.sureAddr, Sem.run_bind, Sem.run_pure, Result.andThen_ok, h]
open Go.RowKit Go.Proofs.YticjkfacdmmopaaDoor.Q Go.Proofs.YticjkfacdmmopaaDoor.Txt Go.Proofs.YticjkfacdmmopaaDoor.Face Go.Proofs.YticjkfacdmmopaaDoor.Pure Go.Proofs.YticjkfacdmmopaaDoorW.PrintWords Go.Proofs.YticjkfacdmmopaaDoorW.PrintLast Go.Proofs.YticjkfacdmmopaaDoorW.PrintMore
theorem cellB1 {w w1 : World} {p : Addr} {v : Value} (h : w.cell? p = some v) (hb : Below w.heap.size w w1) : w1.cell? p = some v := (hb.cell (World.block_lt_of_cell? w _ h)).trans h
set_option maxRecDepth 100000
def fitB (L : List Int) (P : List Pr) (a b : ByteArray) (n m : Int) (p : ByteArray) : Bool := txt ((a ++ p) ++ b).data.toList && decide (offV L P ((a ++ p) ++ b) n ≤ m)
def gapV (L : List Int) (A : Option Addr) (k c : Nat) (a b : ByteArray) (n : Int) : Array Value := #[.int .i8 (rd L 0), .int .i8 (rd L 1), .int .i8 (rd L 2), .int .i8 (rd L 3), .int .i8 (rd L 4), .int .i8 (rd L 5), .int .i8 (rd L 6), .int .i8 (rd L 7), .int .i8 (rd L 8), .int .i8 (rd L 9), .int .i8 (rd L 10), .int .i8 (rd L 11), .int .i8 (rd L 12), .int .i8 (rd L 13), .int .i8 (rd L 14), .int .i8 (rd L 15), .int .i8 (rd L 16), .int .i8 (rd L 17), .int .i8 (rd L 18), .int .i8 (rd L 19), .int .i8 (rd L 20), .int .i8 (rd L 21), .int .i8 (rd L 22), .int .i8 (rd L 23), .int .i8 (rd L 24), .int .i8 (rd L 25), .int .i8 (rd L 26), .int .i8 (rd L 27), .slice A k c, .string a, .string b, .int .i64 n]
def StopP (p : Prop) : Prop := p
theorem stop_ {p : Prop} (h : StopP p) : p := h
theorem go_on {p : Prop} (h : p) : StopP p := h
theorem info_gapV : (Tryd.prog.info? 108).map (·.size) = some 32 := by kernel_rfl
theorem info_faceW : (Tryd.prog.info? 32).map (·.size) = some 29 := by kernel_rfl
theorem fitsV_calls (L : List Int) (A : Option Addr) (c : Nat) (P : List Pr) (a b : ByteArray) (n : Int) (p : ByteArray) (m : Int) (r : Bool) (w : World) (hC : Kd.C kPr w A P.length P) (hc : P.length ≤ c) (hG : GlobM w) (h : impl_gapLine_fits.f 1000 (rd L 0) (rd L 1) (rd L 2) (rd L 3) (rd L 4) (rd L 5) (rd L 6) (rd L 7) (rd L 8) (rd L 9) (rd L 10) (rd L 11) (rd L 12) (rd L 13) (rd L 14) (rd L 15) (rd L 16) (rd L 17) (rd L 18) (rd L 19) (rd L 20) (rd L 21) (rd L 22) (rd L 23) (rd L 24) (rd L 25) (rd L 26) (rd L 27) P a b n p m = some r) :
  Calls Tryd.prog 91 #[.agg (gapV L A P.length c a b n), .string p, .int .i64 m] w fun e w' => e = .returned (.bool r) ∧ Below w.heap.size w w' :=
 impl_gapLine_fits.calls 1000 (rd L 0) (rd L 1) (rd L 2) (rd L 3) (rd L 4) (rd L 5) (rd L 6) (rd L 7) (rd L 8) (rd L 9) (rd L 10) (rd L 11) (rd L 12) (rd L 13) (rd L 14) (rd L 15) (rd L 16) (rd L 17) (rd L 18) (rd L 19) (rd L 20) (rd L 21) (rd L 22) (rd L 23) (rd L 24) (rd L 25) (rd L 26) (rd L 27) A c P a b n p m r w hC hc hG h
set_option maxHeartbeats 2000000 in
theorem fillw1_calls (L : List Int) (A : Option Addr) (c : Nat) (P : List Pr) (F : FaceOk L P) (a b : ByteArray) (ha : a.size ≤ 1048576) (hb : b.size ≤ 1048576) (l : List ByteArray) (hs : ∀ s ∈ l, s.size ≤ 1048576) (n m : Int) (h0 : 0 ≤ n) (h1 : n ≤ 4000) (A3 : Option Addr) (c3 : Nat) (g1 g2 g3 : Nat) (i : Nat) (hi : i < l.length) (w : World) (hG : GlobM w) (hC : Kd.C kPr w A P.length P) (hc : P.length ≤ c) (hC3 : Kd.C Kd.string w A3 l.length l)
  (B1 : w.heap[g1]? = some (.cells (gapV L A P.length c a b n) 108 (0, 0))) (B2 : w.heap[g2]? = some (.cells #[.slice A3 l.length c3] 48 (0, 0))) (B3 : w.heap[g3]? = some (.cells #[.int .i64 m] 2 (0, 0))) :
  Calls Tryd.prog 94 #[.int .i64 (i : Int), .pointer (some ⟨g1, 0, none⟩), .pointer (some ⟨g2, 0, none⟩), .pointer (some ⟨g3, 0, none⟩)] w fun e w' => e = .returned (.bool (fitB L P a b n m (rdOf ByteArray.empty l (i : Int)))) ∧ Below w.heap.size w w' := by
 have hp : (rdOf ByteArray.empty l (i : Int)).size ≤ 1048576 := by rw [rdOf_get l i hi]; exact hs _ (List.getElem_mem hi)
 obtain ⟨p, hpe⟩ : ∃ p, rdOf ByteArray.empty l (i : Int) = p := ⟨_, rfl⟩
 obtain ⟨ad, ea, hcx⟩ := Kd.at_string hC3 (i : Int) (by omega) (by omega)
 rw [Int.toNat_natCast] at hcx
 rw [hpe] at hp hcx ⊢
 subst ea
 have hfit := fits_eq F a b p (by omega) n m h0 h1 (k := 1000) (by omega)
 obtain ⟨r, hr⟩ : ∃ r, fitB L P a b n m p = r := ⟨_, rfl⟩
 rw [show (txt ((a ++ p) ++ b).data.toList && decide (offV L P ((a ++ p) ++ b) n ≤ m)) = r from hr] at hfit
 rw [hr]
 have HF := Aside0.mk hfit
 have HG := Aside0.mk hG
 have HC := Aside0.mk hC
 have HCc := Aside0.mk hc
 have HB1 := Aside0.mk B1
 have hc2 : w.cell? ⟨g2, 0, none⟩ = some (.slice (some ad) l.length c3) := (blk_cell B2 0).trans rfl
 have hc3 : w.cell? ⟨g3, 0, none⟩ = some (.int .i64 m) := (blk_cell B3 0).trans rfl
 have HSZ : Aside0 ((Tryd.prog.info? 108).map (·.size) = some (gapV L A P.length c a b n).size) := ⟨info_gapV⟩
 have hiz : (i : Int) < (l.length : Int) := by omega
 have hi0 : (0 : Int) ≤ (i : Int) := by omega
 clear hfit hG hC hc B1 B2 B3 hp hpe hs ha hb F hr h0 h1 hC3
 go_enter Tryd.func94, Tryd.ntmps94
 go_wp2_with fail
 refine start_ (n := 8) (S := fun w' => w'.heap[g1]? = some (.cells (gapV L A P.length c a b n) 108 (0, 0)) ∧ w'.cell? ⟨g2, 0, none⟩ = some (.slice (some ad) l.length c3) ∧ w'.cell? (ad.add i) = some (.string p) ∧ w'.cell? ⟨g3, 0, none⟩ = some (.int .i64 m) ∧ Below w.heap.size w w') (ds := []) #[false, false, false, false, false, false, false, false] (by kernel_rfl) rfl rfl ⟨(blk_below HB1.out (below_drew (Below.refl _ _))), (cellB1 hc2 (below_drew (Below.refl _ _))), (cellB1 hcx (below_drew (Below.refl _ _))), (cellB1 hc3 (below_drew (Below.refl _ _))), (below_drew (Below.refl _ _))⟩ (fun hHeld => ?_)
 refine pure_ (i := 2) (N := some 8) (v := ?_) (a' := ?_) #[false, false, true, false, false, false, false, false] rfl rfl (by kernel_rfl) (fun _ _ _ h => h) (Or.inl ⟨by rfl, ?_⟩) ?_ ?_
 rotate_left
 ·intro w'
  go_simp
  with_reducible rfl
 rotate_left
 ·simp only [Act.put, List.setIfInBounds_toArray, List.set_cons_zero, List.set_cons_succ, i64_w, i32_w]
  rfl
 refine take_ (i := 0) (N := some 6) (v := ?_) (a' := ?_) #[true, false, true, false, false, false, false, false] rfl rfl (by kernel_rfl) (fun _ _ _ h => h) (Or.inl ⟨by rfl, ?_⟩) hHeld ?_ ?_
 rotate_left
 ·rintro w' ⟨s0, s1, s2, s3, s4⟩
  refine exec_load_row 108 (.tmp 1) ?_ g1 ?_ _ _ _ _ s0 Tryd.underlying108 rfl HSZ.out
  ·rfl
  ·rfl
 rotate_left
 ·simp only [Act.put, List.setIfInBounds_toArray, List.set_cons_zero, List.set_cons_succ, i64_w, i32_w]
  rfl
 refine take_ (i := 1) (N := some 7) (v := ?_) (a' := ?_) #[true, true, true, false, false, false, false, false] rfl rfl (by kernel_rfl) (fun _ _ _ h => h) (Or.inl ⟨by rfl, ?_⟩) hHeld ?_ ?_
 rotate_left
 ·rintro w' ⟨s0, s1, s2, s3, s4⟩
  go_simp
  with_reducible rfl
 rotate_left
 ·simp only [Act.put, List.setIfInBounds_toArray, List.set_cons_zero, List.set_cons_succ, i64_w, i32_w]
  rfl
 refine pure_ (i := 3) (N := some 9) (v := ?_) (a' := ?_) #[true, true, true, true, false, false, false, false] rfl rfl (by kernel_rfl) (fun _ _ _ h => h) (Or.inl ⟨by rfl, ?_⟩) ?_ ?_
 rotate_left
 ·intro w'
  go_simp
  with_reducible rfl
 rotate_left
 ·simp only [Act.put, List.setIfInBounds_toArray, List.set_cons_zero, List.set_cons_succ, i64_w, i32_w]
  rfl
 refine take_ (i := 4) (N := some 10) (v := ?_) (a' := ?_) #[true, true, true, true, true, false, false, false] rfl rfl (by kernel_rfl) (fun _ _ _ h => h) (Or.inl ⟨by rfl, ?_⟩) hHeld ?_ ?_
 rotate_left
 ·rintro w' ⟨s0, s1, s2, s3, s4⟩
  go_simp
  with_reducible rfl
 rotate_left
 ·simp only [Act.put, List.setIfInBounds_toArray, List.set_cons_zero, List.set_cons_succ, i64_w, i32_w]
  rfl
 refine take_ (i := 5) (N := some 11) (v := ?_) (a' := ?_) #[true, true, true, true, true, true, false, false] rfl rfl (by kernel_rfl) (fun _ _ _ h => h) (Or.inl ⟨by rfl, ?_⟩) hHeld ?_ ?_
 rotate_left
 ·rintro w' ⟨s0, s1, s2, s3, s4⟩
  go_simp
  with_reducible rfl
 rotate_left
 ·simp only [Act.put, List.setIfInBounds_toArray, List.set_cons_zero, List.set_cons_succ, i64_w, i32_w]
  rfl
 refine one_ (i := 6) (N := some 12) #[true, true, true, true, true, true, true, false] rfl rfl (by kernel_rfl) (by decide) (fun K hK => ?_)
 refine goes_ Tryd.func91 (by kernel_rfl) rfl #[.agg (gapV L A P.length c a b n), .string p, .int .i64 m] (by rfl) rfl rfl (by simp only [List.map_toArray, List.map_cons, List.map_nil]; rfl) ?_
 with_reducible refine ((fitsV_calls L A c P a b n p m r _ (Kd.C_below HC.out hHeld.2.2.2.2) HCc.out (HG.out.below hHeld.2.2.2.2) HF.out)).mono ?_
 rintro e w3 ⟨rfl, hb⟩
 refine ⟨_, rfl, ?_⟩
 refine hK.out _ _ ⟨(blk_below hHeld.1 hb), (cellB1 hHeld.2.1 hb), (cellB1 hHeld.2.2.1 hb), (cellB1 hHeld.2.2.2.1 hb), (below_step hHeld.2.2.2.2 hb)⟩ (fun hHeld => ?_)
 clear hK K
 refine norm_ (a' := ?_) ?_ ?_
 rotate_left
 ·show Act.put _ (some 12) _ = _
  simp only [Act.put, List.setIfInBounds_toArray, List.set_cons_zero, List.set_cons_succ, i64_w, i32_w]
  rfl
 refine pure_ (i := 7) (N := some 5) (v := ?_) (a' := ?_) #[true, true, true, true, true, true, true, true] rfl rfl (by kernel_rfl) (fun _ _ _ h => h) (Or.inl ⟨by rfl, ?_⟩) ?_ ?_
 rotate_left
 ·intro w'
  go_simp
  with_reducible rfl
 rotate_left
 ·simp only [Act.put, List.setIfInBounds_toArray, List.set_cons_zero, List.set_cons_succ, i64_w, i32_w]
  rfl
 refine done_ (by kernel_rfl) ?_
 go_wp2_with fail
 go_ret
 exact ⟨rfl, hHeld.2.2.2.2⟩
def fillWordC (L : List Int) (P : List Pr) (a b : ByteArray) (l : List ByteArray) (n m : Int) : List Int × Int := if gapC L P a b l n m = 0 then (indL (fun i => fitB L P a b n m (rdOf ByteArray.empty l i)) l.length, 0) else ([], gapC L P a b l n m)
def impl_FillWord.f (F0 F1 F2 F3 F4 F5 F6 F7 F8 F9 F10 F11 F12 F13 F14 F15 F16 F17 F18 F19 F20 F21 F22 F23 F24 F25 F26 F27 : Int) (l0_28 : List Pr) (a1 a2 : ByteArray) (l3 : List ByteArray) (a4 a5 : Int) : Option (List Int × Int) := if rngB [F0, F1, F2, F3, F4, F5, F6, F7, F8, F9, F10, F11, F12, F13, F14, F15, F16, F17, F18, F19, F20, F21, F22, F23, F24, F25, F26, F27] l0_28 = true ∧ (a1.size ≤ 1048576 ∧ a2.size ≤ 1048576) ∧ (l3.length ≤ 1048576 ∧ (l3.all fun s => decide (s.size ≤ 1048576)) = true) then some (fillWordC [F0, F1, F2, F3, F4, F5, F6, F7, F8, F9, F10, F11, F12, F13, F14, F15, F16, F17, F18, F19, F20, F21, F22, F23, F24, F25, F26, F27] l0_28 a1 a2 l3 a4 a5) else none
set_option maxHeartbeats 4000000 in
theorem fillWord_calls (F0 F1 F2 F3 F4 F5 F6 F7 F8 F9 F10 F11 F12 F13 F14 F15 F16 F17 F18 F19 F20 F21 F22 F23 F24 F25 F26 F27 : Int) (A : Option Addr) (c : Nat) (P : List Pr) (hr : rngB [F0, F1, F2, F3, F4, F5, F6, F7, F8, F9, F10, F11, F12, F13, F14, F15, F16, F17, F18, F19, F20, F21, F22, F23, F24, F25, F26, F27] P = true) (a b : ByteArray) (ha : a.size ≤ 1048576) (hb : b.size ≤ 1048576) (A3 : Option Addr) (c3 : Nat) (l : List ByteArray) (hs : ∀ s ∈ l, s.size ≤ 1048576) (hn : l.length ≤ 1048576) (n m : Int) (w : World) (hG : GlobM w) (hC : Kd.C kPr w A P.length P) (hc : P.length ≤ c) (hC3 : Kd.C Kd.string w A3 l.length l) (hc3 : l.length ≤ c3) :
  Calls Tryd.prog 45 #[.agg #[.int .i8 F0, .int .i8 F1, .int .i8 F2, .int .i8 F3, .int .i8 F4, .int .i8 F5, .int .i8 F6, .int .i8 F7, .int .i8 F8, .int .i8 F9, .int .i8 F10, .int .i8 F11, .int .i8 F12, .int .i8 F13, .int .i8 F14, .int .i8 F15, .int .i8 F16, .int .i8 F17, .int .i8 F18, .int .i8 F19, .int .i8 F20, .int .i8 F21, .int .i8 F22, .int .i8 F23, .int .i8 F24, .int .i8 F25, .int .i8 F26, .int .i8 F27, .slice A P.length c], .string a, .string b, .slice A3 l.length c3, .int .i64 n, .int .i64 m] w fun e w' => ∃ v0_ : Value, e = .returned (.tuple #[v0_, .int .i64 (fillWordC [F0, F1, F2, F3, F4, F5, F6, F7, F8, F9, F10, F11, F12, F13, F14, F15, F16, F17, F18, F19, F20, F21, F22, F23, F24, F25, F26, F27] P a b l n m).2]) ∧ Kd.R (Kd.int .i64) 2 w' w.heap.size (fun _ => True) v0_ (fillWordC [F0, F1, F2, F3, F4, F5, F6, F7, F8, F9, F10, F11, F12, F13, F14, F15, F16, F17, F18, F19, F20, F21, F22, F23, F24, F25, F26, F27] P a b l n m).1 ∧ Below w.heap.size w w' := by
 have hgc : impl_gapCode.f 1048600 F0 F1 F2 F3 F4 F5 F6 F7 F8 F9 F10 F11 F12 F13 F14 F15 F16 F17 F18 F19 F20 F21 F22 F23 F24 F25 F26 F27 P a b n l m = some (gapC [F0, F1, F2, F3, F4, F5, F6, F7, F8, F9, F10, F11, F12, F13, F14, F15, F16, F17, F18, F19, F20, F21, F22, F23, F24, F25, F26, F27] P a b l n m) := gapCode_eq (L := [F0, F1, F2, F3, F4, F5, F6, F7, F8, F9, F10, F11, F12, F13, F14, F15, F16, F17, F18, F19, F20, F21, F22, F23, F24, F25, F26, F27]) rfl hr a b ha hb l n m (k := 1048600) (by omega)
 obtain ⟨q, hq⟩ : ∃ q, gapC [F0, F1, F2, F3, F4, F5, F6, F7, F8, F9, F10, F11, F12, F13, F14, F15, F16, F17, F18, F19, F20, F21, F22, F23, F24, F25, F26, F27] P a b l n m = q := ⟨_, rfl⟩
 rw [hq] at hgc
 have HQ := Aside0.mk hq
 have HGC := Aside0.mk hgc
 have HG := Aside0.mk hG
 have HC := Aside0.mk hC
 have HCc := Aside0.mk hc
 have HC3 := Aside0.mk hC3
 have HCc3 := Aside0.mk hc3
 have HR := Aside0.mk hr
 have HS := Aside0.mk hs
 have HN := Aside0.mk hn
 have HA := Aside0.mk ha
 have HBs := Aside0.mk hb
 have HSZ : Aside0 ((Tryd.prog.info? 32).map (·.size) = some (#[.int .i8 F0, .int .i8 F1, .int .i8 F2, .int .i8 F3, .int .i8 F4, .int .i8 F5, .int .i8 F6, .int .i8 F7, .int .i8 F8, .int .i8 F9, .int .i8 F10, .int .i8 F11, .int .i8 F12, .int .i8 F13, .int .i8 F14, .int .i8 F15, .int .i8 F16, .int .i8 F17, .int .i8 F18, .int .i8 F19, .int .i8 F20, .int .i8 F21, .int .i8 F22, .int .i8 F23, .int .i8 F24, .int .i8 F25, .int .i8 F26, .int .i8 F27, .slice A P.length c] : Array Value).size) := ⟨info_faceW⟩
 have HSG : Aside0 ((Tryd.prog.info? 108).map (·.size) = some (#[.int .i8 F0, .int .i8 F1, .int .i8 F2, .int .i8 F3, .int .i8 F4, .int .i8 F5, .int .i8 F6, .int .i8 F7, .int .i8 F8, .int .i8 F9, .int .i8 F10, .int .i8 F11, .int .i8 F12, .int .i8 F13, .int .i8 F14, .int .i8 F15, .int .i8 F16, .int .i8 F17, .int .i8 F18, .int .i8 F19, .int .i8 F20, .int .i8 F21, .int .i8 F22, .int .i8 F23, .int .i8 F24, .int .i8 F25, .int .i8 F26, .int .i8 F27, .slice A P.length c, .string a, .string b, .int .i64 n] : Array Value).size) := ⟨info_gapV⟩
 have B0 := Aside0.mk (blk_alloc (blk_alloc (blk_new w (.cells #[.int .i8 F0, .int .i8 F1, .int .i8 F2, .int .i8 F3, .int .i8 F4, .int .i8 F5, .int .i8 F6, .int .i8 F7, .int .i8 F8, .int .i8 F9, .int .i8 F10, .int .i8 F11, .int .i8 F12, .int .i8 F13, .int .i8 F14, .int .i8 F15, .int .i8 F16, .int .i8 F17, .int .i8 F18, .int .i8 F19, .int .i8 F20, .int .i8 F21, .int .i8 F22, .int .i8 F23, .int .i8 F24, .int .i8 F25, .int .i8 F26, .int .i8 F27, .slice A P.length c] 32)) (.cells #[.slice A3 l.length c3] 48)) (.cells #[.int .i64 m] 2))
 have B1 := Aside0.mk (blk_alloc (blk_at (W := w.alloc (.cells #[.int .i8 F0, .int .i8 F1, .int .i8 F2, .int .i8 F3, .int .i8 F4, .int .i8 F5, .int .i8 F6, .int .i8 F7, .int .i8 F8, .int .i8 F9, .int .i8 F10, .int .i8 F11, .int .i8 F12, .int .i8 F13, .int .i8 F14, .int .i8 F15, .int .i8 F16, .int .i8 F17, .int .i8 F18, .int .i8 F19, .int .i8 F20, .int .i8 F21, .int .i8 F22, .int .i8 F23, .int .i8 F24, .int .i8 F25, .int .i8 F26, .int .i8 F27, .slice A P.length c] 32)) (n := w.heap.size + 1) (by simp) (.cells #[.slice A3 l.length c3] 48)) (.cells #[.int .i64 m] 2))
 have B2 := Aside0.mk (blk_at (W := (w.alloc (.cells #[.int .i8 F0, .int .i8 F1, .int .i8 F2, .int .i8 F3, .int .i8 F4, .int .i8 F5, .int .i8 F6, .int .i8 F7, .int .i8 F8, .int .i8 F9, .int .i8 F10, .int .i8 F11, .int .i8 F12, .int .i8 F13, .int .i8 F14, .int .i8 F15, .int .i8 F16, .int .i8 F17, .int .i8 F18, .int .i8 F19, .int .i8 F20, .int .i8 F21, .int .i8 F22, .int .i8 F23, .int .i8 F24, .int .i8 F25, .int .i8 F26, .int .i8 F27, .slice A P.length c] 32)).alloc (.cells #[.slice A3 l.length c3] 48)) (n := w.heap.size + 2) (by simp) (.cells #[.int .i64 m] 2))
 have HB := Aside0.mk (bwA (bwA (bwA (Below.refl w.heap.size w) (.cells #[.int .i8 F0, .int .i8 F1, .int .i8 F2, .int .i8 F3, .int .i8 F4, .int .i8 F5, .int .i8 F6, .int .i8 F7, .int .i8 F8, .int .i8 F9, .int .i8 F10, .int .i8 F11, .int .i8 F12, .int .i8 F13, .int .i8 F14, .int .i8 F15, .int .i8 F16, .int .i8 F17, .int .i8 F18, .int .i8 F19, .int .i8 F20, .int .i8 F21, .int .i8 F22, .int .i8 F23, .int .i8 F24, .int .i8 F25, .int .i8 F26, .int .i8 F27, .slice A P.length c] 32)) (.cells #[.slice A3 l.length c3] 48)) (.cells #[.int .i64 m] 2))
 clear hG hC hc hC3 hc3 hs hn ha hb hr hgc hq
 go_enter Tryd.func45, Tryd.ntmps45
 go_wp2_with (first | ((with_reducible refine gate_dst (N := 16) rfl ?_); refine wpList_load_row rfl 32 (.tmp 6) rfl w.heap.size rfl 32 #[.int .i8 F0, .int .i8 F1, .int .i8 F2, .int .i8 F3, .int .i8 F4, .int .i8 F5, .int .i8 F6, .int .i8 F7, .int .i8 F8, .int .i8 F9, .int .i8 F10, .int .i8 F11, .int .i8 F12, .int .i8 F13, .int .i8 F14, .int .i8 F15, .int .i8 F16, .int .i8 F17, .int .i8 F18, .int .i8 F19, .int .i8 F20, .int .i8 F21, .int .i8 F22, .int .i8 F23, .int .i8 F24, .int .i8 F25, .int .i8 F26, .int .i8 F27, .slice A P.length c] (0, 0) _ B0.out Tryd.underlying32 rfl HSZ.out ?_) | ((with_reducible refine gate_store (t := 108) (p := 14) rfl ?_); refine stop_ ?_) | fail)
 refine go_on ?_
 refine ev_store_row rfl 108 (.tmp 14) (.tmp 20) rfl rfl (w.heap.size + 3) #[.int .i8 F0, .int .i8 F1, .int .i8 F2, .int .i8 F3, .int .i8 F4, .int .i8 F5, .int .i8 F6, .int .i8 F7, .int .i8 F8, .int .i8 F9, .int .i8 F10, .int .i8 F11, .int .i8 F12, .int .i8 F13, .int .i8 F14, .int .i8 F15, .int .i8 F16, .int .i8 F17, .int .i8 F18, .int .i8 F19, .int .i8 F20, .int .i8 F21, .int .i8 F22, .int .i8 F23, .int .i8 F24, .int .i8 F25, .int .i8 F26, .int .i8 F27, .slice A P.length c, .string a, .string b, .int .i64 n] rfl rfl _ _ (blk_at (n := w.heap.size + 3) (by simp) _) HSG.out rfl (by kernel_rfl) ?_
 intro w5 hb5 hk5 hbel5
 have M0 := Aside0.mk hb5
 have M1 := Aside0.mk ((hk5.2 (w.heap.size + 1) (by simp) (by omega)).trans (blk_alloc B1.out _))
 have M2 := Aside0.mk ((hk5.2 (w.heap.size + 2) (by simp) (by omega)).trans (blk_alloc B2.out _))
 have MB := Aside0.mk ((bwA HB.out _).trans (hbel5 _ (by omega)))
 clear hb5 hk5 hbel5 B0 B1 B2 HB
 have c1 := (blk_cell M1.out 0).trans rfl
 have c2 := (blk_cell M2.out 0).trans rfl
 go_wp2_with (first | ((with_reducible refine gate_dst (N := 21) rfl ?_); refine wpList_load_row rfl 108 (.tmp 14) rfl (w.heap.size + 3) rfl 108 #[.int .i8 F0, .int .i8 F1, .int .i8 F2, .int .i8 F3, .int .i8 F4, .int .i8 F5, .int .i8 F6, .int .i8 F7, .int .i8 F8, .int .i8 F9, .int .i8 F10, .int .i8 F11, .int .i8 F12, .int .i8 F13, .int .i8 F14, .int .i8 F15, .int .i8 F16, .int .i8 F17, .int .i8 F18, .int .i8 F19, .int .i8 F20, .int .i8 F21, .int .i8 F22, .int .i8 F23, .int .i8 F24, .int .i8 F25, .int .i8 F26, .int .i8 F27, .slice A P.length c, .string a, .string b, .int .i64 n] (0, 0) _ M0.out Tryd.underlying108 rfl HSG.out ?_) | fail)
 refine (impl_gapCode.calls 1048600 F0 F1 F2 F3 F4 F5 F6 F7 F8 F9 F10 F11 F12 F13 F14 F15 F16 F17 F18 F19 F20 F21 F22 F23 F24 F25 F26 F27 A c P a b n A3 c3 l m q _ (Kd.C_below HC.out MB.out) HCc.out (Kd.C_below HC3.out MB.out) HCc3.out (HG.out.below MB.out) HGC.out).mono ?_
 rintro e w6 ⟨rfl, hb⟩
 replace M0 := Aside0.mk (blk_below M0.out hb)
 replace M1 := Aside0.mk (blk_below M1.out hb)
 replace M2 := Aside0.mk (blk_below M2.out hb)
 replace MB := Aside0.mk (below_step MB.out hb)
 clear hb c1 c2
 by_cases hz : q = 0
 ·have e0 : fillWordC [F0, F1, F2, F3, F4, F5, F6, F7, F8, F9, F10, F11, F12, F13, F14, F15, F16, F17, F18, F19, F20, F21, F22, F23, F24, F25, F26, F27] P a b l n m = (indL (fun i => fitB [F0, F1, F2, F3, F4, F5, F6, F7, F8, F9, F10, F11, F12, F13, F14, F15, F16, F17, F18, F19, F20, F21, F22, F23, F24, F25, F26, F27] P a b n m (rdOf ByteArray.empty l i)) l.length, 0) := by unfold fillWordC; rw [if_pos (HQ.out.trans hz)]
  obtain ⟨hf, _, h0, h1⟩ := gapC_zero (HQ.out.trans hz)
  have HF := Aside0.mk (faceOk (L := [F0, F1, F2, F3, F4, F5, F6, F7, F8, F9, F10, F11, F12, F13, F14, F15, F16, F17, F18, F19, F20, F21, F22, F23, F24, F25, F26, F27]) rfl HR.out hf)
  have H0 := Aside0.mk h0
  subst hz
  have E0 := Aside0.mk e0
  clear hf h0 h1 e0
  have c1 := (blk_cell M1.out 0).trans rfl
  go_wp2_with fail
  refine (indices_calls 94 #[.pointer (some ⟨w.heap.size + 3, 0, none⟩), .pointer (some ⟨w.heap.size + 1, 0, none⟩), .pointer (some ⟨w.heap.size + 2, 0, none⟩)] (fun i => fitB [F0, F1, F2, F3, F4, F5, F6, F7, F8, F9, F10, F11, F12, F13, F14, F15, F16, F17, F18, F19, F20, F21, F22, F23, F24, F25, F26, F27] P a b n m (rdOf ByteArray.empty l i)) (enters_of Tryd.func94 (by kernel_rfl) rfl) l.length _ HN.out (fun W i hi hW => fillw1_calls [F0, F1, F2, F3, F4, F5, F6, F7, F8, F9, F10, F11, F12, F13, F14, F15, F16, F17, F18, F19, F20, F21, F22, F23, F24, F25, F26, F27] A c P HF.out a b HA.out HBs.out l HS.out n m H0.out.1 H0.out.2 A3 c3 (w.heap.size + 3) (w.heap.size + 1) (w.heap.size + 2) i hi W (HG.out.below (below_step MB.out hW)) (Kd.C_below HC.out (below_step MB.out hW)) HCc.out (Kd.C_below HC3.out (below_step MB.out hW)) (blk_below M0.out hW) (blk_below M1.out hW) (blk_below M2.out hW))).mono ?_
  rintro e w7 ⟨v, rfl, ho, hb⟩
  have HO := Aside0.mk (Kd.R_lower ho (below_size MB.out))
  have HB7 := Aside0.mk (below_step MB.out hb)
  clear ho hb
  go_wp2_with fail
  go_ret2
  rw [E0.out]
  exact ⟨_, rfl, HO.out, HB7.out⟩
 ·have e0 : fillWordC [F0, F1, F2, F3, F4, F5, F6, F7, F8, F9, F10, F11, F12, F13, F14, F15, F16, F17, F18, F19, F20, F21, F22, F23, F24, F25, F26, F27] P a b l n m = ([], q) := by unfold fillWordC; rw [if_neg (by rw [HQ.out]; exact hz), HQ.out]
  have E0 := Aside0.mk e0
  have hzb : (q == 0) = false := by rw [beq_eq_false_iff_ne]; exact hz
  have hzn : (q != 0) = true := by rw [bne_iff_ne]; exact hz
  clear e0
  go_wp2_with fail
  go_ret2
  rw [E0.out]
  exact ⟨_, rfl, Kd.R_nil _ _ _ _ _, MB.out⟩
theorem impl_FillWord.calls (F0 F1 F2 F3 F4 F5 F6 F7 F8 F9 F10 F11 F12 F13 F14 F15 F16 F17 F18 F19 F20 F21 F22 F23 F24 F25 F26 F27 : Int) (A0_28 : Option Addr) (c0_28 : Nat) (l0_28 : List Pr) (a1 a2 : ByteArray) (A3 : Option Addr) (c3 : Nat) (l3 : List ByteArray) (a4 a5 : Int) (r1 : List Int) (r2 : Int) (w : World) (hr0_28 : Kd.C kPr w A0_28 l0_28.length l0_28) (hc0_28 : l0_28.length ≤ c0_28) (hr3 : Kd.C Kd.string w A3 l3.length l3) (hc3 : l3.length ≤ c3) (hG : GlobM w) (h : impl_FillWord.f F0 F1 F2 F3 F4 F5 F6 F7 F8 F9 F10 F11 F12 F13 F14 F15 F16 F17 F18 F19 F20 F21 F22 F23 F24 F25 F26 F27 l0_28 a1 a2 l3 a4 a5 = some (r1, r2)) :
  Calls Tryd.prog 45 #[.agg #[.int .i8 F0, .int .i8 F1, .int .i8 F2, .int .i8 F3, .int .i8 F4, .int .i8 F5, .int .i8 F6, .int .i8 F7, .int .i8 F8, .int .i8 F9, .int .i8 F10, .int .i8 F11, .int .i8 F12, .int .i8 F13, .int .i8 F14, .int .i8 F15, .int .i8 F16, .int .i8 F17, .int .i8 F18, .int .i8 F19, .int .i8 F20, .int .i8 F21, .int .i8 F22, .int .i8 F23, .int .i8 F24, .int .i8 F25, .int .i8 F26, .int .i8 F27, .slice A0_28 l0_28.length c0_28], .string a1, .string a2, .slice A3 l3.length c3, .int .i64 a4, .int .i64 a5] w fun e w' => ∃ v0_ : Value, e = .returned (.tuple #[v0_, .int .i64 r2]) ∧ Kd.R (Kd.int .i64) 2 w' w.heap.size (fun _ => True) v0_ r1 ∧ Below w.heap.size w w' := by
 unfold impl_FillWord.f at h
 split at h
 ·rename_i hb
  have h2 := Option.some.inj h
  have := fillWord_calls F0 F1 F2 F3 F4 F5 F6 F7 F8 F9 F10 F11 F12 F13 F14 F15 F16 F17 F18 F19 F20 F21 F22 F23 F24 F25 F26 F27 A0_28 c0_28 l0_28 hb.1 a1 a2 hb.2.1.1 hb.2.1.2 A3 c3 l3 (fun s hs => by simpa using List.all_eq_true.1 hb.2.2.2 s hs) hb.2.2.1 a4 a5 w hG hr0_28 hc0_28 hr3 hc3
  rw [h2] at this
  exact this
 ·cases h
end Go.Proofs.YticjkfacdmmopaaDoor.Ext
namespace Go.Proofs.YticjkfacdmmopaaDoor.Q
open Go.Proofs.YticjkfacdmmopaaDoor.Ext
open Go.RowKit Go.Proofs.YticjkfacdmmopaaDoorW.PrintWords Go.Proofs.YticjkfacdmmopaaDoorW.PrintLast Go.Proofs.YticjkfacdmmopaaDoorW.PrintMore
attribute [local go_sem] max2_int min2_int max_two min_two max_three min_three max_four min_four
set_option linter.unusedVariables false
set_option linter.unusedSimpArgs false
def spec_FillWord.l0 : Nat → ByteArray → ByteArray → List ByteArray → Int → Int → List Int → Int → Int → Int → Int → Int → Int → Int → Int → Int → Int → Int → Int → Int → Int → Int → Int → Int → Int → Int → Int → Int → Int → Int → Int → Int → Int → Int → Int → Int → List (S137) → Option (List Int × Int)
 | 0, _, _, _, _, _, _, _, _, _, _, _, _, _, _, _, _, _, _, _, _, _, _, _, _, _, _, _, _, _, _, _, _, _, _, _, _ => none
 | k + 1, x1, x2, x3, x4, x5, x14, x16, x1341000, x1341001, x1341002, x1341003, x1341004, x1341005, x1341006, x1341007, x1341008, x1341009, x1341010, x1341011, x1341012, x1341013, x1341014, x1341015, x1341016, x1341017, x1341018, x1341019, x1341020, x1341021, x1341022, x1341023, x1341024, x1341025, x1341026, x1341027, x1341028 => if x16 < (x3.length : Int) then (if 0 ≤ x16 then (if x1.size + (rdOf ByteArray.empty x3 x16).size ≤ 9223372036854775807 then (if (x1 ++ (rdOf ByteArray.empty x3 x16)).size + x2.size ≤ 9223372036854775807 then ((spec_l04Off.f k x1341000 x1341001 x1341002 x1341003 x1341004 x1341005 x1341006 x1341007 x1341008 x1341009 x1341010 x1341011 x1341012 x1341013 x1341014 x1341015 x1341016 x1341017 x1341018 x1341019 x1341020 x1341021 x1341022 x1341023 x1341024 x1341025 x1341026 x1341027 x1341028 ((x1 ++ (rdOf ByteArray.empty x3 x16)) ++ x2) x4).bind fun t1346 => ((spec_l00In.f t1346 0 x5).bind fun t1347 => (if t1347 = true then (if x14.length < 17592186044416 then (spec_FillWord.l0 k x1 x2 x3 x4 x5 (x14 ++ [x16]) (wrap64 (x16 + 1)) x1341000 x1341001 x1341002 x1341003 x1341004 x1341005 x1341006 x1341007 x1341008 x1341009 x1341010 x1341011 x1341012 x1341013 x1341014 x1341015 x1341016 x1341017 x1341018 x1341019 x1341020 x1341021 x1341022 x1341023 x1341024 x1341025 x1341026 x1341027 x1341028) else (none)) else (spec_FillWord.l0 k x1 x2 x3 x4 x5 x14 (wrap64 (x16 + 1)) x1341000 x1341001 x1341002 x1341003 x1341004 x1341005 x1341006 x1341007 x1341008 x1341009 x1341010 x1341011 x1341012 x1341013 x1341014 x1341015 x1341016 x1341017 x1341018 x1341019 x1341020 x1341021 x1341022 x1341023 x1341024 x1341025 x1341026 x1341027 x1341028)))) else (none)) else (none)) else (none)) else (some (x14, 0))
def spec_FillWord.f (k : Nat) (F0 F1 F2 F3 F4 F5 F6 F7 F8 F9 F10 F11 F12 F13 F14 F15 F16 F17 F18 F19 F20 F21 F22 F23 F24 F25 F26 F27 : Int) (l0_28 : List (S137)) (a1 : ByteArray) (a2 : ByteArray) (l3 : List ByteArray) (a4 : Int) (a5 : Int) : Option (List Int × Int) := (some (([] : List Int) : List Int)).bind fun y1341 => ((spec_l04Asked.f k F0 F1 F2 F3 F4 F5 F6 F7 F8 F9 F10 F11 F12 F13 F14 F15 F16 F17 F18 F19 F20 F21 F22 F23 F24 F25 F26 F27 l0_28 a1 a2 l3 a4 a5).bind fun t1344 => (if t1344 = 0 then (spec_FillWord.l0 k a1 a2 l3 a4 a5 y1341 0 F0 F1 F2 F3 F4 F5 F6 F7 F8 F9 F10 F11 F12 F13 F14 F15 F16 F17 F18 F19 F20 F21 F22 F23 F24 F25 F26 F27 l0_28) else (some (y1341, t1344))))
set_option maxHeartbeats 8000000 in
set_option maxRecDepth 100000 in
theorem spec_FillWord.calls (k : Nat) (F0 F1 F2 F3 F4 F5 F6 F7 F8 F9 F10 F11 F12 F13 F14 F15 F16 F17 F18 F19 F20 F21 F22 F23 F24 F25 F26 F27 : Int) (A0_28 : Option Addr) (c0_28 : Nat) (l0_28 : List (S137)) (a1 : ByteArray) (a2 : ByteArray) (A3 : Option Addr) (c3 : Nat) (l3 : List ByteArray) (a4 : Int) (a5 : Int) (r1 : List Int) (r2 : Int) (w : World) (hr0_28 : Kd.C k137 w A0_28 l0_28.length l0_28) (hc0_28 : l0_28.length ≤ c0_28) (hr3 : Kd.C Kd.string w A3 l3.length l3) (hc3 : l3.length ≤ c3) (h : spec_FillWord.f k F0 F1 F2 F3 F4 F5 F6 F7 F8 F9 F10 F11 F12 F13 F14 F15 F16 F17 F18 F19 F20 F21 F22 F23 F24 F25 F26 F27 l0_28 a1 a2 l3 a4 a5 = some (r1, r2)) :
  Calls Tryd.prog 44 #[.agg #[.int .i8 F0, .int .i8 F1, .int .i8 F2, .int .i8 F3, .int .i8 F4, .int .i8 F5, .int .i8 F6, .int .i8 F7, .int .i8 F8, .int .i8 F9, .int .i8 F10, .int .i8 F11, .int .i8 F12, .int .i8 F13, .int .i8 F14, .int .i8 F15, .int .i8 F16, .int .i8 F17, .int .i8 F18, .int .i8 F19, .int .i8 F20, .int .i8 F21, .int .i8 F22, .int .i8 F23, .int .i8 F24, .int .i8 F25, .int .i8 F26, .int .i8 F27, .slice A0_28 l0_28.length c0_28], .string a1, .string a2, .slice A3 l3.length c3, .int .i64 a4, .int .i64 a5] w fun e w' => ∃ v0_ : Value, e = .returned (.tuple #[v0_, .int .i64 r2]) ∧ Kd.R (Kd.int .i64) 2 w' w.heap.size (fun _ => True) v0_ r1 ∧ Below w.heap.size w w' := by
 have hu32 := Tryd.underlying32
 have HR0_28 := Aside0.mk hr0_28
 have HC0_28 := Aside0.mk hc0_28
 clear hr0_28 hc0_28
 have HR3 := Aside0.mk hr3
 have HC3 := Aside0.mk hc3
 clear hr3 hc3
 have HB := Aside0.mk (Below.refl w.heap.size w)
 have H : ((some (([] : List Int) : List Int)).bind fun y1341 => ((spec_l04Asked.f k F0 F1 F2 F3 F4 F5 F6 F7 F8 F9 F10 F11 F12 F13 F14 F15 F16 F17 F18 F19 F20 F21 F22 F23 F24 F25 F26 F27 l0_28 a1 a2 l3 a4 a5).bind fun t1344 => (if t1344 = 0 then (spec_FillWord.l0 k a1 a2 l3 a4 a5 y1341 0 F0 F1 F2 F3 F4 F5 F6 F7 F8 F9 F10 F11 F12 F13 F14 F15 F16 F17 F18 F19 F20 F21 F22 F23 F24 F25 F26 F27 l0_28) else (some (y1341, t1344))))) = some (r1, r2) := h
 clear h
 obtain ⟨y1341, hy1341⟩ : ∃ y_ : List Int, y_ = (([] : List Int)) := ⟨_, rfl⟩
 replace H : ((spec_l04Asked.f k F0 F1 F2 F3 F4 F5 F6 F7 F8 F9 F10 F11 F12 F13 F14 F15 F16 F17 F18 F19 F20 F21 F22 F23 F24 F25 F26 F27 l0_28 a1 a2 l3 a4 a5).bind fun t1344 => (if t1344 = 0 then (spec_FillWord.l0 k a1 a2 l3 a4 a5 y1341 0 F0 F1 F2 F3 F4 F5 F6 F7 F8 F9 F10 F11 F12 F13 F14 F15 F16 F17 F18 F19 F20 F21 F22 F23 F24 F25 F26 F27 l0_28) else (some (y1341, t1344)))) = some (r1, r2) := by first | (rw [hy1341]; with_reducible exact H) | (have H2_ := (Option.bind_some _ _).symm.trans H; rw [hy1341]; with_reducible exact H2_) | (have H2_ := (Option.bind_some _ _).symm.trans H; with_reducible exact H2_) | with_reducible exact H | (rw [hy1341]; exact H) | exact H
 have Ny1341 := Aside0.mk hy1341
 clear hy1341
 replace H := Option.bind_eq_some_iff.mp H
 obtain ⟨t1344, A70, H⟩ := H
 (try dsimp only at H)
 have A7 := Aside0.mk A70
 clear A70
 by_cases c8 : t1344 = 0
 ·rw [if_pos c8] at H
  have c8b0 : (t1344 == 0) = true := beq_iff_eq.mpr c8
  have c8b1 : (t1344 != 0) = false := bne_eq_false_iff_eq.mpr c8
  clear c8
  have H' := Aside0.mk H
  clear H
  go_enter Tryd.func44, Tryd.ntmps44
  go_wp2_with (first | ((with_reducible refine gate_dst (N := 6) rfl ?_); refine box_event ?hg (N := 6) ?hd (cs := #[.int .i8 F0, .int .i8 F1, .int .i8 F2, .int .i8 F3, .int .i8 F4, .int .i8 F5, .int .i8 F6, .int .i8 F7, .int .i8 F8, .int .i8 F9, .int .i8 F10, .int .i8 F11, .int .i8 F12, .int .i8 F13, .int .i8 F14, .int .i8 F15, .int .i8 F16, .int .i8 F17, .int .i8 F18, .int .i8 F19, .int .i8 F20, .int .i8 F21, .int .i8 F22, .int .i8 F23, .int .i8 F24, .int .i8 F25, .int .i8 F26, .int .i8 F27, .slice A0_28 l0_28.length c0_28]) (t := 32) ?hr ?_; (case hd => rfl); (case hg => rfl); (case hr => first | (go_simp; done) | (go_simp; rfl)); intro gb1340 hg w9 hbox hb; have n0_ := Aside0.mk (below_step (by repeat (first | (with_reducible first | exact HB.out | apply bwA | apply pwN | apply bw1) | exact HB.out)) hb); have n1_ := Aside0.mk (hbox); have n2_ := Aside0.mk ((by rw [hg]; exact (below_size (by repeat (first | (with_reducible first | exact HB.out | apply bwA | apply pwN | apply bw1) | exact HB.out))) : w.heap.size ≤ gb1340)); have n3_ := Aside0.mk ((by rw [hg]; exact (below_size (by repeat (first | (with_reducible first | exact HB.out | apply bwA | apply pwN | apply bw1) | exact HB.out))) : w.heap.size ≤ gb1340)); clear HB; have HB := n0_; have BK1340 := n1_; have GW1340 := n2_; have GE1340 := n3_; clear n0_ n1_ n2_ n3_; clear hb hbox hg; have HI1340 := Aside0.mk (show IsS32 w w9 gb1340 F0 F1 F2 F3 F4 F5 F6 F7 F8 F9 F10 F11 F12 F13 F14 F15 F16 F17 F18 F19 F20 F21 F22 F23 F24 F25 F26 F27 l0_28 from ⟨A0_28, c0_28, BK1340.out, GW1340.out, HR0_28.out⟩)) | ((with_reducible refine gate_dst (N := 17) rfl ?_); refine Kd.R_lit (Kd.int .i64) _ 2 ?hg (N := 17) ?hd (xs := ([] : List Int)) (inner := []) (ok := fun _ => True) (okp := fun _ => True) ?hr ?hp (fun _ hk => hk) trivial (Below.refl _ _) (Nat.le_refl _) (by simp) ?_; (case hd => rfl); (case hg => rfl); (case hr => first | (go_simp; done) | (go_simp; rfl)); (case hp => exact (Reps.none _ _)); intro v1342 w10 ho11 hb hg_ hnew_; clear hg_ hnew_; (first | rw [← Ny1341.out] at ho11 | (simp only [Int.reduceToNat] at ho11; rw [← Ny1341.out] at ho11)); have n0_ := Aside0.mk (Kd.R_lower ho11 (below_size (by repeat (first | (with_reducible first | exact HB.out | apply bwA | apply pwN | apply bw1 | refine below_set ?_ (IsS32.ge HI1340.out)) | exact HB.out)))); have n1_ := Aside0.mk (IsS32.below (by repeat (first | (with_reducible first | exact HI1340.out | apply IsS32.alloc | apply IsS32.drewN | apply IsS32.drew) | exact HI1340.out)) hb); have n2_ := Aside0.mk (below_step (by repeat (first | (with_reducible first | exact HB.out | apply bwA | apply pwN | apply bw1 | refine below_set ?_ (IsS32.ge HI1340.out)) | exact HB.out)) hb); clear HI1340; clear HB; have HO1343 := n0_; have HI1340 := n1_; have HB := n2_; clear n0_ n1_ n2_; clear hb ho11) | ((with_reducible refine gate_callee (f := 88) rfl ?_); refine goesL_ (some 23) rfl rfl Tryd.func88 (by kernel_rfl) rfl #[.pointer (some ⟨gb1340, 0, none⟩), .string a1, .string a2, .slice A3 l3.length c3, .int .i64 a4, .int .i64 a5] rfl (by (try simp only [List.map_toArray, List.map_cons, List.map_nil]); first | done | rfl | (simp only [List.length_drop, List.length_take]; rfl)) ?_; (with_reducible refine (spec_l04Asked.calls k gb1340 F0 F1 F2 F3 F4 F5 F6 F7 F8 F9 F10 F11 F12 F13 F14 F15 F16 F17 F18 F19 F20 F21 F22 F23 F24 F25 F26 F27 l0_28 a1 a2 _ _ l3 a4 a5 t1344 w _ ?side1 ?side2 ?side3 ?side4 ?side5 A7.out).mono ?_); (case side1 => repeat (first | (with_reducible first | exact HI1340.out | apply IsS32.alloc | apply IsS32.drewN | apply IsS32.drew) | exact HI1340.out)); (case side2 => repeat (first | (with_reducible first | exact HB.out | apply bwA | apply pwN | apply bw1 | refine below_set ?_ (IsS32.ge HI1340.out)) | exact HB.out)); (case side3 => repeat (first | exact (Kd.C_below HR3.out HB.out) | (with_reducible refine Kd.C_alloc ?_ _) | (with_reducible refine Kd.C_drewN ?_ _) | (with_reducible refine Kd.C_drew ?_))); (case side4 => exact HC3.out); (case side5 => exact Kd.far_C (⟨#[]⟩ : ByteArray) HR3.out (IsS32.ge HI1340.out)); rintro e w12 ⟨rfl, hi, hb, hk⟩; refine ⟨_, rfl, ?_⟩; have n0_ := Aside0.mk (Kd.R_mono (Kd.R_keep (IsS32.apart (show IsS32 w _ gb1340 F0 F1 F2 F3 F4 F5 F6 F7 F8 F9 F10 F11 F12 F13 F14 F15 F16 F17 F18 F19 F20 F21 F22 F23 F24 F25 F26 F27 l0_28 from by repeat (first | (with_reducible first | exact HI1340.out | apply IsS32.alloc | apply IsS32.drewN | apply IsS32.drew) | exact HI1340.out)) (by (with_reducible repeat (first | apply Kd.R_alloc | apply Kd.R_drewN | apply Kd.R_drew)); exact HO1343.out) (by decide)) hk (fun _ h => h.2)) (fun _ h => h.1)); have n1_ := Aside0.mk (hb); have n2_ := Aside0.mk (hi); clear HO1343; clear HB; clear HI1340; have HO1343 := n0_; have HB := n1_; have HI1340 := n2_; clear n0_ n1_ n2_; (try clear hb); (try clear hb2); (try clear hk); (try clear hi)))
  go_loopg [14, 16] k (fun kq v14 v16 w' => ∃ (x14_1 : List Int) (x16_1 : Int), v16 = .int .i64 x16_1 ∧ Aside0 (spec_FillWord.l0 kq a1 a2 l3 a4 a5 x14_1 x16_1 F0 F1 F2 F3 F4 F5 F6 F7 F8 F9 F10 F11 F12 F13 F14 F15 F16 F17 F18 F19 F20 F21 F22 F23 F24 F25 F26 F27 l0_28 = some (r1, r2)) ∧ Aside0 (kq ≤ k) ∧ Aside0 (Kd.R (Kd.int .i64) 2 w' w.heap.size (fun _ => True) v14 x14_1) ∧ Aside0 (IsS32 w w' gb1340 F0 F1 F2 F3 F4 F5 F6 F7 F8 F9 F10 F11 F12 F13 F14 F15 F16 F17 F18 F19 F20 F21 F22 F23 F24 F25 F26 F27 l0_28) ∧ Aside0 (Below w.heap.size w w'))
  case atStart => exact ⟨(y1341), (0), (by first | rfl | (simp; done) | (simp [*]; done)), H', ⟨Nat.le_refl _⟩, ⟨by (with_reducible repeat (first | apply Kd.R_alloc | apply Kd.R_drewN | apply Kd.R_drew)); exact HO1343.out⟩, ⟨by repeat (first | (with_reducible first | exact HI1340.out | apply IsS32.alloc | apply IsS32.drewN | apply IsS32.drew) | exact HI1340.out)⟩, ⟨by repeat (first | (with_reducible first | exact HB.out | apply bwA | apply pwN | apply bw1 | refine below_set ?_ (IsS32.ge HI1340.out)) | exact HB.out)⟩⟩
  case round =>
   clear H'
   try clear p2
   try clear c3
   try clear c4
   try clear c8
   try clear c8b0
   try clear c8b1
   obtain ⟨x14_1, x16_1, rfl, HA, HK1, HO_14, HI1340, HB⟩ := hrel
   cases gk with
   | zero => exact absurd HA.out (by simp [spec_FillWord.l0])
   | succ k1 =>
    have H := HA.out
    clear HA
    simp only [spec_FillWord.l0] at H
    by_cases c13 : x16_1 < (l3.length : Int)
    ·rw [if_pos c13] at H
     have c13b0 : decide (x16_1 < (l3.length : Int)) = true := decide_eq_true c13
     clear c13
     by_cases c14 : 0 ≤ x16_1
     ·rw [if_pos c14] at H
      have c14b0 : decide (0 ≤ x16_1) = true := decide_eq_true c14
      clear c14
      by_cases c15 : a1.size + (rdOf ByteArray.empty l3 x16_1).size ≤ 9223372036854775807
      ·rw [if_pos c15] at H
       have c15b0 := eq_true c15
       have c15b1 : decide (a1.size + (rdOf ByteArray.empty l3 x16_1).size ≤ 9223372036854775807) = true := decide_eq_true c15
       try have c15b2 : (9223372036854775807 < a1.size + (rdOf ByteArray.empty l3 x16_1).size) = False := eq_false (Nat.not_lt.2 c15)
       by_cases c16 : (a1 ++ (rdOf ByteArray.empty l3 x16_1)).size + a2.size ≤ 9223372036854775807
       ·rw [if_pos c16] at H
        have c16b0 := eq_true c16
        have c16b1 : decide ((a1 ++ (rdOf ByteArray.empty l3 x16_1)).size + a2.size ≤ 9223372036854775807) = true := decide_eq_true c16
        try have c16b2 : (9223372036854775807 < (a1 ++ (rdOf ByteArray.empty l3 x16_1)).size + a2.size) = False := eq_false (Nat.not_lt.2 c16)
        replace H := Option.bind_eq_some_iff.mp H
        obtain ⟨t1346, A170, H⟩ := H
        (try dsimp only at H)
        have A17 := Aside0.mk A170
        clear A170
        replace H := Option.bind_eq_some_iff.mp H
        obtain ⟨t1347, A180, H⟩ := H
        (try dsimp only at H)
        have A18 := Aside0.mk A180
        clear A180
        by_cases c19 : t1347 = true
        ·subst c19
         have H1 : (if x14_1.length < 17592186044416 then (spec_FillWord.l0 k1 a1 a2 l3 a4 a5 (x14_1 ++ [x16_1]) (wrap64 (x16_1 + 1)) F0 F1 F2 F3 F4 F5 F6 F7 F8 F9 F10 F11 F12 F13 F14 F15 F16 F17 F18 F19 F20 F21 F22 F23 F24 F25 F26 F27 l0_28) else (none)) = some (r1, r2) := by rw [if_pos rfl] at H; exact H
         clear H
         have H := H1
         clear H1
         by_cases c20 : x14_1.length < 17592186044416
         ·rw [if_pos c20] at H
          have LMc20 := Aside0.mk c20
          clear c20
          obtain ⟨y1348, hy1348⟩ : ∃ y_ : List Int, y_ = (x14_1 ++ [x16_1]) := ⟨_, rfl⟩
          replace H : (spec_FillWord.l0 k1 a1 a2 l3 a4 a5 y1348 (wrap64 (x16_1 + 1)) F0 F1 F2 F3 F4 F5 F6 F7 F8 F9 F10 F11 F12 F13 F14 F15 F16 F17 F18 F19 F20 F21 F22 F23 F24 F25 F26 F27 l0_28) = some (r1, r2) := by first | (rw [hy1348]; with_reducible exact H) | (have H2_ := (Option.bind_some _ _).symm.trans H; rw [hy1348]; with_reducible exact H2_) | (have H2_ := (Option.bind_some _ _).symm.trans H; with_reducible exact H2_) | with_reducible exact H | (rw [hy1348]; exact H) | exact H
          have Ny1348 := Aside0.mk hy1348
          clear hy1348
          have H' := Aside0.mk H
          clear H
          have p1345 : 0 ≤ (x16_1 : Int) := of_decide_eq_true (by first | (with_reducible assumption) | assumption)
          have q1345 : x16_1 < (l3.length : Int) := of_decide_eq_true (by first | (with_reducible assumption) | assumption)
          obtain ⟨ad1345, e1345, hx1345_0⟩ := Kd.at_string HR3.out x16_1 p1345 q1345
          cases e1345
          replace hx1345_0 := (HB.out.cell (World.block_lt_of_cell? w _ hx1345_0)).trans hx1345_0
          replace p1345 := eq_true p1345
          replace q1345 := eq_true q1345
          go_wp2_with (first | ((with_reducible refine gate_callee (f := 89) rfl ?_); refine goesL_ (some 43) rfl rfl Tryd.func89 (by kernel_rfl) rfl #[.pointer (some ⟨gb1340, 0, none⟩), .string ((a1 ++ (rdOf ByteArray.empty l3 x16_1)) ++ a2), .int .i64 a4] rfl (by (try simp only [List.map_toArray, List.map_cons, List.map_nil]); first | done | rfl | (simp only [List.length_drop, List.length_take]; rfl)) ?_; (with_reducible refine (spec_l04Off.calls k1 gb1340 F0 F1 F2 F3 F4 F5 F6 F7 F8 F9 F10 F11 F12 F13 F14 F15 F16 F17 F18 F19 F20 F21 F22 F23 F24 F25 F26 F27 l0_28 ((a1 ++ (rdOf ByteArray.empty l3 x16_1)) ++ a2) a4 t1346 w _ ?side1 ?side2 A17.out).mono ?_); (case side1 => repeat (first | (with_reducible first | exact HI1340.out | apply IsS32.alloc | apply IsS32.drewN | apply IsS32.drew) | exact HI1340.out)); (case side2 => repeat (first | (with_reducible first | exact HB.out | apply bwA | apply pwN | apply bw1 | refine below_set ?_ (IsS32.ge HI1340.out)) | exact HB.out)); rintro e w21 ⟨rfl, hi, hb, hk⟩; refine ⟨_, rfl, ?_⟩; have n0_ := Aside0.mk (Kd.R_mono (Kd.R_keep (IsS32.apart (show IsS32 w _ gb1340 F0 F1 F2 F3 F4 F5 F6 F7 F8 F9 F10 F11 F12 F13 F14 F15 F16 F17 F18 F19 F20 F21 F22 F23 F24 F25 F26 F27 l0_28 from by repeat (first | (with_reducible first | exact HI1340.out | apply IsS32.alloc | apply IsS32.drewN | apply IsS32.drew) | exact HI1340.out)) (by (with_reducible repeat (first | apply Kd.R_alloc | apply Kd.R_drewN | apply Kd.R_drew)); exact HO_14.out) (by decide)) hk (fun _ h => h.2)) (fun _ h => h.1)); have n1_ := Aside0.mk (hb); have n2_ := Aside0.mk (hi); clear HO_14; clear HB; clear HI1340; have HO_14 := n0_; have HB := n1_; have HI1340 := n2_; clear n0_ n1_ n2_; (try clear hb); (try clear hb2); (try clear hk); (try clear hi)) | ((with_reducible refine gate_callee (f := 84) rfl ?_); refine goesL_ (some 45) rfl rfl Tryd.func84 (by kernel_rfl) rfl #[.int .i64 t1346, .int .i64 0, .int .i64 a5] rfl (by (try simp only [List.map_toArray, List.map_cons, List.map_nil]); first | done | rfl | (simp only [List.length_drop, List.length_take]; rfl)) ?_; (with_reducible refine (spec_l00In.calls t1346 0 a5 true _ A18.out).mono ?_); rintro e w' ⟨rfl, ⟨nd, rfl⟩⟩; refine ⟨_, rfl, ?_⟩) | ((with_reducible refine gate_builtin (b := .append) (xs := #[.tmp 46, .tmp 48]) rfl ?_); at_builtin; refine Kd.R_append (Kd.int .i64) (w0 := w) w.heap.size rfl (.tmp 46) (.tmp 48) 38 2 (.int .i64 0) 8 rfl Tryd.underlying38 info2 rfl (by decide) (by omega) u14 x14_1 x16_1 [.int .i64 x16_1] (fun _ => True) (fun _ => False) rfl rfl ?aP (fun _ hk => hk.elim) ?aF ?aO ?aB ?aS ?aL ?_; (case aP => exact rfl); (case aB => exact (by repeat (first | (with_reducible first | exact HB.out | apply bwA | apply pwN | apply bw1 | refine below_set ?_ (IsS32.ge HI1340.out)) | exact HB.out))); (case aF => exact (fun _ _ => trivial)); (case aO => exact (by (with_reducible repeat (first | apply Kd.R_alloc | apply Kd.R_drewN | apply Kd.R_drew)); exact HO_14.out)); (case aS => exact (below_size (by repeat (first | (with_reducible first | exact HB.out | apply bwA | apply pwN | apply bw1 | refine below_set ?_ (IsS32.ge HI1340.out)) | exact HB.out)))); (case aL => have := LMc20.out; omega); intro v1349 w22 ho hb hg hat; rw [← Ny1348.out] at ho; have n0_ := Aside0.mk (IsS32.grown (by repeat (first | (with_reducible first | exact HI1340.out | apply IsS32.alloc | apply IsS32.drewN | apply IsS32.drew) | exact HI1340.out)) hg (IsS32.own_ne HI1340.out HO_14.out (by decide))); have n1_ := Aside0.mk (hb); have n2_ := Aside0.mk (ho); clear HI1340; clear HB; clear HO_14; have HI1340 := n0_; have HB := n1_; have HO1350 := n2_; clear n0_ n1_ n2_; clear ho hb hg hat))
          go_roundg k1
          case measure => have := HK1.out; omega
          case rel => exact ⟨(y1348), (wrap64 (x16_1 + 1)), (by first | rfl | (simp; done) | (simp [*]; done)), H', ⟨by have := HK1.out; omega⟩, ⟨by (with_reducible repeat (first | apply Kd.R_alloc | apply Kd.R_drewN | apply Kd.R_drew)); exact HO1350.out⟩, ⟨by repeat (first | (with_reducible first | exact HI1340.out | apply IsS32.alloc | apply IsS32.drewN | apply IsS32.drew) | exact HI1340.out)⟩, ⟨by repeat (first | (with_reducible first | exact HB.out | apply bwA | apply pwN | apply bw1 | refine below_set ?_ (IsS32.ge HI1340.out)) | exact HB.out)⟩⟩
         ·rw [if_neg c20] at H
          exact absurd H (by simp)
        ·replace c19 := Bool.eq_false_iff.mpr c19
         subst c19
         have H1 : (spec_FillWord.l0 k1 a1 a2 l3 a4 a5 x14_1 (wrap64 (x16_1 + 1)) F0 F1 F2 F3 F4 F5 F6 F7 F8 F9 F10 F11 F12 F13 F14 F15 F16 F17 F18 F19 F20 F21 F22 F23 F24 F25 F26 F27 l0_28) = some (r1, r2) := by rw [if_neg (show ¬ (false = true) by decide)] at H; exact H
         clear H
         have H := H1
         clear H1
         have H' := Aside0.mk H
         clear H
         have p1345 : 0 ≤ (x16_1 : Int) := of_decide_eq_true (by first | (with_reducible assumption) | assumption)
         have q1345 : x16_1 < (l3.length : Int) := of_decide_eq_true (by first | (with_reducible assumption) | assumption)
         obtain ⟨ad1345, e1345, hx1345_0⟩ := Kd.at_string HR3.out x16_1 p1345 q1345
         cases e1345
         replace hx1345_0 := (HB.out.cell (World.block_lt_of_cell? w _ hx1345_0)).trans hx1345_0
         replace p1345 := eq_true p1345
         replace q1345 := eq_true q1345
         go_wp2_with (first | ((with_reducible refine gate_callee (f := 89) rfl ?_); refine goesL_ (some 43) rfl rfl Tryd.func89 (by kernel_rfl) rfl #[.pointer (some ⟨gb1340, 0, none⟩), .string ((a1 ++ (rdOf ByteArray.empty l3 x16_1)) ++ a2), .int .i64 a4] rfl (by (try simp only [List.map_toArray, List.map_cons, List.map_nil]); first | done | rfl | (simp only [List.length_drop, List.length_take]; rfl)) ?_; (with_reducible refine (spec_l04Off.calls k1 gb1340 F0 F1 F2 F3 F4 F5 F6 F7 F8 F9 F10 F11 F12 F13 F14 F15 F16 F17 F18 F19 F20 F21 F22 F23 F24 F25 F26 F27 l0_28 ((a1 ++ (rdOf ByteArray.empty l3 x16_1)) ++ a2) a4 t1346 w _ ?side1 ?side2 A17.out).mono ?_); (case side1 => repeat (first | (with_reducible first | exact HI1340.out | apply IsS32.alloc | apply IsS32.drewN | apply IsS32.drew) | exact HI1340.out)); (case side2 => repeat (first | (with_reducible first | exact HB.out | apply bwA | apply pwN | apply bw1 | refine below_set ?_ (IsS32.ge HI1340.out)) | exact HB.out)); rintro e w23 ⟨rfl, hi, hb, hk⟩; refine ⟨_, rfl, ?_⟩; have n0_ := Aside0.mk (Kd.R_mono (Kd.R_keep (IsS32.apart (show IsS32 w _ gb1340 F0 F1 F2 F3 F4 F5 F6 F7 F8 F9 F10 F11 F12 F13 F14 F15 F16 F17 F18 F19 F20 F21 F22 F23 F24 F25 F26 F27 l0_28 from by repeat (first | (with_reducible first | exact HI1340.out | apply IsS32.alloc | apply IsS32.drewN | apply IsS32.drew) | exact HI1340.out)) (by (with_reducible repeat (first | apply Kd.R_alloc | apply Kd.R_drewN | apply Kd.R_drew)); exact HO_14.out) (by decide)) hk (fun _ h => h.2)) (fun _ h => h.1)); have n1_ := Aside0.mk (hb); have n2_ := Aside0.mk (hi); clear HO_14; clear HB; clear HI1340; have HO_14 := n0_; have HB := n1_; have HI1340 := n2_; clear n0_ n1_ n2_; (try clear hb); (try clear hb2); (try clear hk); (try clear hi)) | ((with_reducible refine gate_callee (f := 84) rfl ?_); refine goesL_ (some 45) rfl rfl Tryd.func84 (by kernel_rfl) rfl #[.int .i64 t1346, .int .i64 0, .int .i64 a5] rfl (by (try simp only [List.map_toArray, List.map_cons, List.map_nil]); first | done | rfl | (simp only [List.length_drop, List.length_take]; rfl)) ?_; (with_reducible refine (spec_l00In.calls t1346 0 a5 false _ A18.out).mono ?_); rintro e w' ⟨rfl, ⟨nd, rfl⟩⟩; refine ⟨_, rfl, ?_⟩))
         go_roundg k1
         case measure => have := HK1.out; omega
         case rel => exact ⟨(x14_1), (wrap64 (x16_1 + 1)), (by first | rfl | (simp; done) | (simp [*]; done)), H', ⟨by have := HK1.out; omega⟩, ⟨by (with_reducible repeat (first | apply Kd.R_alloc | apply Kd.R_drewN | apply Kd.R_drew)); exact HO_14.out⟩, ⟨by repeat (first | (with_reducible first | exact HI1340.out | apply IsS32.alloc | apply IsS32.drewN | apply IsS32.drew) | exact HI1340.out)⟩, ⟨by repeat (first | (with_reducible first | exact HB.out | apply bwA | apply pwN | apply bw1 | refine below_set ?_ (IsS32.ge HI1340.out)) | exact HB.out)⟩⟩
       ·rw [if_neg c16] at H
        exact absurd H (by simp)
      ·rw [if_neg c15] at H
       exact absurd H (by simp)
     ·rw [if_neg c14] at H
      exact absurd H (by simp)
    ·rw [if_neg c13] at H
     have c13b0 : decide (x16_1 < (l3.length : Int)) = false := decide_eq_false c13
     clear c13
     simp only [Option.some.injEq, Prod.mk.injEq] at H
     obtain ⟨rfl, rfl⟩ := H
     go_wp2
     go_ret2
     exact ⟨_, by first | rfl | (simp [errW_none, errW_some] <;> rfl) | (simp [*, errW_none, errW_some] <;> rfl), by (with_reducible repeat (first | apply Kd.R_alloc | apply Kd.R_drewN | apply Kd.R_drew)); exact HO_14.out, by repeat (first | (with_reducible first | exact HB.out | apply bwA | apply pwN | apply bw1 | refine below_set ?_ (IsS32.ge HI1340.out)) | exact HB.out)⟩
 ·rw [if_neg c8] at H
  have c8b0 : (t1344 == 0) = false := beq_eq_false_iff_ne.mpr c8
  have c8b1 : (t1344 != 0) = true := bne_iff_ne.mpr c8
  simp only [Option.some.injEq, Prod.mk.injEq] at H
  obtain ⟨rfl, rfl⟩ := H
  go_enter Tryd.func44, Tryd.ntmps44
  go_wp2_with (first | ((with_reducible refine gate_dst (N := 6) rfl ?_); refine box_event ?hg (N := 6) ?hd (cs := #[.int .i8 F0, .int .i8 F1, .int .i8 F2, .int .i8 F3, .int .i8 F4, .int .i8 F5, .int .i8 F6, .int .i8 F7, .int .i8 F8, .int .i8 F9, .int .i8 F10, .int .i8 F11, .int .i8 F12, .int .i8 F13, .int .i8 F14, .int .i8 F15, .int .i8 F16, .int .i8 F17, .int .i8 F18, .int .i8 F19, .int .i8 F20, .int .i8 F21, .int .i8 F22, .int .i8 F23, .int .i8 F24, .int .i8 F25, .int .i8 F26, .int .i8 F27, .slice A0_28 l0_28.length c0_28]) (t := 32) ?hr ?_; (case hd => rfl); (case hg => rfl); (case hr => first | (go_simp; done) | (go_simp; rfl)); intro gb1340 hg w24 hbox hb; have n0_ := Aside0.mk (below_step (by repeat (first | (with_reducible first | exact HB.out | apply bwA | apply pwN | apply bw1) | exact HB.out)) hb); have n1_ := Aside0.mk (hbox); have n2_ := Aside0.mk ((by rw [hg]; exact (below_size (by repeat (first | (with_reducible first | exact HB.out | apply bwA | apply pwN | apply bw1) | exact HB.out))) : w.heap.size ≤ gb1340)); have n3_ := Aside0.mk ((by rw [hg]; exact (below_size (by repeat (first | (with_reducible first | exact HB.out | apply bwA | apply pwN | apply bw1) | exact HB.out))) : w.heap.size ≤ gb1340)); clear HB; have HB := n0_; have BK1340 := n1_; have GW1340 := n2_; have GE1340 := n3_; clear n0_ n1_ n2_ n3_; clear hb hbox hg; have HI1340 := Aside0.mk (show IsS32 w w24 gb1340 F0 F1 F2 F3 F4 F5 F6 F7 F8 F9 F10 F11 F12 F13 F14 F15 F16 F17 F18 F19 F20 F21 F22 F23 F24 F25 F26 F27 l0_28 from ⟨A0_28, c0_28, BK1340.out, GW1340.out, HR0_28.out⟩)) | ((with_reducible refine gate_dst (N := 17) rfl ?_); refine Kd.R_lit (Kd.int .i64) _ 2 ?hg (N := 17) ?hd (xs := ([] : List Int)) (inner := []) (ok := fun _ => True) (okp := fun _ => True) ?hr ?hp (fun _ hk => hk) trivial (Below.refl _ _) (Nat.le_refl _) (by simp) ?_; (case hd => rfl); (case hg => rfl); (case hr => first | (go_simp; done) | (go_simp; rfl)); (case hp => exact (Reps.none _ _)); intro v1342 w25 ho26 hb hg_ hnew_; clear hg_ hnew_; (first | rw [← Ny1341.out] at ho26 | (simp only [Int.reduceToNat] at ho26; rw [← Ny1341.out] at ho26)); have n0_ := Aside0.mk (Kd.R_lower ho26 (below_size (by repeat (first | (with_reducible first | exact HB.out | apply bwA | apply pwN | apply bw1 | refine below_set ?_ (IsS32.ge HI1340.out)) | exact HB.out)))); have n1_ := Aside0.mk (IsS32.below (by repeat (first | (with_reducible first | exact HI1340.out | apply IsS32.alloc | apply IsS32.drewN | apply IsS32.drew) | exact HI1340.out)) hb); have n2_ := Aside0.mk (below_step (by repeat (first | (with_reducible first | exact HB.out | apply bwA | apply pwN | apply bw1 | refine below_set ?_ (IsS32.ge HI1340.out)) | exact HB.out)) hb); clear HI1340; clear HB; have HO1343 := n0_; have HI1340 := n1_; have HB := n2_; clear n0_ n1_ n2_; clear hb ho26) | ((with_reducible refine gate_callee (f := 88) rfl ?_); refine goesL_ (some 23) rfl rfl Tryd.func88 (by kernel_rfl) rfl #[.pointer (some ⟨gb1340, 0, none⟩), .string a1, .string a2, .slice A3 l3.length c3, .int .i64 a4, .int .i64 a5] rfl (by (try simp only [List.map_toArray, List.map_cons, List.map_nil]); first | done | rfl | (simp only [List.length_drop, List.length_take]; rfl)) ?_; (with_reducible refine (spec_l04Asked.calls k gb1340 F0 F1 F2 F3 F4 F5 F6 F7 F8 F9 F10 F11 F12 F13 F14 F15 F16 F17 F18 F19 F20 F21 F22 F23 F24 F25 F26 F27 l0_28 a1 a2 _ _ l3 a4 a5 t1344 w _ ?side1 ?side2 ?side3 ?side4 ?side5 A7.out).mono ?_); (case side1 => repeat (first | (with_reducible first | exact HI1340.out | apply IsS32.alloc | apply IsS32.drewN | apply IsS32.drew) | exact HI1340.out)); (case side2 => repeat (first | (with_reducible first | exact HB.out | apply bwA | apply pwN | apply bw1 | refine below_set ?_ (IsS32.ge HI1340.out)) | exact HB.out)); (case side3 => repeat (first | exact (Kd.C_below HR3.out HB.out) | (with_reducible refine Kd.C_alloc ?_ _) | (with_reducible refine Kd.C_drewN ?_ _) | (with_reducible refine Kd.C_drew ?_))); (case side4 => exact HC3.out); (case side5 => exact Kd.far_C (⟨#[]⟩ : ByteArray) HR3.out (IsS32.ge HI1340.out)); rintro e w27 ⟨rfl, hi, hb, hk⟩; refine ⟨_, rfl, ?_⟩; have n0_ := Aside0.mk (Kd.R_mono (Kd.R_keep (IsS32.apart (show IsS32 w _ gb1340 F0 F1 F2 F3 F4 F5 F6 F7 F8 F9 F10 F11 F12 F13 F14 F15 F16 F17 F18 F19 F20 F21 F22 F23 F24 F25 F26 F27 l0_28 from by repeat (first | (with_reducible first | exact HI1340.out | apply IsS32.alloc | apply IsS32.drewN | apply IsS32.drew) | exact HI1340.out)) (by (with_reducible repeat (first | apply Kd.R_alloc | apply Kd.R_drewN | apply Kd.R_drew)); exact HO1343.out) (by decide)) hk (fun _ h => h.2)) (fun _ h => h.1)); have n1_ := Aside0.mk (hb); have n2_ := Aside0.mk (hi); clear HO1343; clear HB; clear HI1340; have HO1343 := n0_; have HB := n1_; have HI1340 := n2_; clear n0_ n1_ n2_; (try clear hb); (try clear hb2); (try clear hk); (try clear hi)))
  go_ret2
  exact ⟨_, by first | rfl | (simp [errW_none, errW_some] <;> rfl) | (simp [*, errW_none, errW_some] <;> rfl), by (with_reducible repeat (first | apply Kd.R_alloc | apply Kd.R_drewN | apply Kd.R_drew)); exact HO1343.out, by repeat (first | (with_reducible first | exact HB.out | apply bwA | apply pwN | apply bw1 | refine below_set ?_ (IsS32.ge HI1340.out)) | exact HB.out)⟩
end Go.Proofs.YticjkfacdmmopaaDoor.Q
