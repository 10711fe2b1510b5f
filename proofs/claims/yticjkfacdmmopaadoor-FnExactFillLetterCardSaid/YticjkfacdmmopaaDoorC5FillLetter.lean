/- Contracts and plain laws of functions of the given program; no conditions beside those in the theorems. -/
import Derived.Test.YticjkfacdmmopaaDoorC2FillLetter
import Derived.Test.YticjkfacdmmopaaDoorC4FillLetter
namespace Go.Proofs.YticjkfacdmmopaaDoor.Ext
end Go.Proofs.YticjkfacdmmopaaDoor.Ext
namespace Go.Proofs.YticjkfacdmmopaaDoor.Q
open Go.Proofs.YticjkfacdmmopaaDoor.Ext
open Go.RowKit Go.Proofs.YticjkfacdmmopaaDoorW.PrintWords Go.Proofs.YticjkfacdmmopaaDoorW.PrintLast Go.Proofs.YticjkfacdmmopaaDoorW.PrintMore
attribute [local go_sem] max2_int min2_int max_two min_two max_three min_three max_four min_four
set_option linter.unusedVariables false
set_option linter.unusedSimpArgs false
mutual
def impl_gapCode.j0 : Nat → Int → Bool → Int → Int → Int → Int → Int → Int → Int → Int → Int → Int → Int → Int → Int → Int → Int → Int → Int → Int → Int → Int → Int → Int → Int → Int → Int → Int → Int → Int → List (S137) → ByteArray → ByteArray → Int → Option (Int)
  | 0, _, _, _, _, _, _, _, _, _, _, _, _, _, _, _, _, _, _, _, _, _, _, _, _, _, _, _, _, _, _, _, _, _, _ => none
  | k + 1, x2, x7, x1080000, x1080001, x1080002, x1080003, x1080004, x1080005, x1080006, x1080007, x1080008, x1080009, x1080010, x1080011, x1080012, x1080013, x1080014, x1080015, x1080016, x1080017, x1080018, x1080019, x1080020, x1080021, x1080022, x1080023, x1080024, x1080025, x1080026, x1080027, x1080028, x1080029, x1080030, x1080031 => if x7 = true then (some 1) else ((impl_within.f x1080031 0 4000).bind fun t1082 => (if t1082 = true then ((impl_within.f x2 0 100).bind fun t1083 => (impl_gapCode.j1 k (!t1083) x1080000 x1080001 x1080002 x1080003 x1080004 x1080005 x1080006 x1080007 x1080008 x1080009 x1080010 x1080011 x1080012 x1080013 x1080014 x1080015 x1080016 x1080017 x1080018 x1080019 x1080020 x1080021 x1080022 x1080023 x1080024 x1080025 x1080026 x1080027 x1080028 x1080029 x1080030 x1080031)) else (impl_gapCode.j1 k true x1080000 x1080001 x1080002 x1080003 x1080004 x1080005 x1080006 x1080007 x1080008 x1080009 x1080010 x1080011 x1080012 x1080013 x1080014 x1080015 x1080016 x1080017 x1080018 x1080019 x1080020 x1080021 x1080022 x1080023 x1080024 x1080025 x1080026 x1080027 x1080028 x1080029 x1080030 x1080031)))
def impl_gapCode.j1 : Nat → Bool → Int → Int → Int → Int → Int → Int → Int → Int → Int → Int → Int → Int → Int → Int → Int → Int → Int → Int → Int → Int → Int → Int → Int → Int → Int → Int → Int → Int → List (S137) → ByteArray → ByteArray → Int → Option (Int)
  | 0, _, _, _, _, _, _, _, _, _, _, _, _, _, _, _, _, _, _, _, _, _, _, _, _, _, _, _, _, _, _, _, _, _ => none
  | k + 1, x17, x1080000, x1080001, x1080002, x1080003, x1080004, x1080005, x1080006, x1080007, x1080008, x1080009, x1080010, x1080011, x1080012, x1080013, x1080014, x1080015, x1080016, x1080017, x1080018, x1080019, x1080020, x1080021, x1080022, x1080023, x1080024, x1080025, x1080026, x1080027, x1080028, x1080029, x1080030, x1080031 => if x17 = true then (some 2) else ((impl_isSpaced.f k x1080029).bind fun t1084 => (if t1084 = true then ((impl_isSpaced.f k x1080030).bind fun t1085 => ((impl_unless.f t1085 5).bind fun t1086 => (some t1086))) else ((impl_unless.f false 5).bind fun t1087 => (some t1087))))
end
def impl_gapCode.f (k : Nat) (a0_0 a0_1 a0_2 a0_3 a0_4 a0_5 a0_6 a0_7 a0_8 a0_9 a0_10 a0_11 a0_12 a0_13 a0_14 a0_15 a0_16 a0_17 a0_18 a0_19 a0_20 a0_21 a0_22 a0_23 a0_24 a0_25 a0_26 a0_27 : Int) (l0_28 : List (S137)) (a0_29 : ByteArray) (a0_30 : ByteArray) (a0_31 : Int) (l1 : List ByteArray) (a2 : Int) : Option (Int) := (impl_ValidFace.f a0_0 a0_1 a0_2 a0_3 a0_4 a0_5 a0_6 a0_7 a0_8 a0_9 a0_10 a0_11 a0_12 a0_13 a0_14 a0_15 a0_16 a0_17 a0_18 a0_19 a0_20 a0_21 a0_22 a0_23 a0_24 a0_25 a0_26 a0_27 l0_28).bind fun t1080 => (if t1080 = true then ((impl_ValidList.f l1).bind fun t1081 => (impl_gapCode.j0 k a2 (!t1081) a0_0 a0_1 a0_2 a0_3 a0_4 a0_5 a0_6 a0_7 a0_8 a0_9 a0_10 a0_11 a0_12 a0_13 a0_14 a0_15 a0_16 a0_17 a0_18 a0_19 a0_20 a0_21 a0_22 a0_23 a0_24 a0_25 a0_26 a0_27 l0_28 a0_29 a0_30 a0_31)) else (impl_gapCode.j0 k a2 true a0_0 a0_1 a0_2 a0_3 a0_4 a0_5 a0_6 a0_7 a0_8 a0_9 a0_10 a0_11 a0_12 a0_13 a0_14 a0_15 a0_16 a0_17 a0_18 a0_19 a0_20 a0_21 a0_22 a0_23 a0_24 a0_25 a0_26 a0_27 l0_28 a0_29 a0_30 a0_31))
theorem impl_gapCode.mono_l : ∀ k, (∀ y0 y1 y2 y3 y4 y5 y6 y7 y8 y9 y10 y11 y12 y13 y14 y15 y16 y17 y18 y19 y20 y21 y22 y23 y24 y25 y26 y27 y28 y29 y30 y31 y32 y33, LeO (impl_gapCode.j0 k y0 y1 y2 y3 y4 y5 y6 y7 y8 y9 y10 y11 y12 y13 y14 y15 y16 y17 y18 y19 y20 y21 y22 y23 y24 y25 y26 y27 y28 y29 y30 y31 y32 y33) (impl_gapCode.j0 (k + 1) y0 y1 y2 y3 y4 y5 y6 y7 y8 y9 y10 y11 y12 y13 y14 y15 y16 y17 y18 y19 y20 y21 y22 y23 y24 y25 y26 y27 y28 y29 y30 y31 y32 y33)) ∧ (∀ y0 y1 y2 y3 y4 y5 y6 y7 y8 y9 y10 y11 y12 y13 y14 y15 y16 y17 y18 y19 y20 y21 y22 y23 y24 y25 y26 y27 y28 y29 y30 y31 y32, LeO (impl_gapCode.j1 k y0 y1 y2 y3 y4 y5 y6 y7 y8 y9 y10 y11 y12 y13 y14 y15 y16 y17 y18 y19 y20 y21 y22 y23 y24 y25 y26 y27 y28 y29 y30 y31 y32) (impl_gapCode.j1 (k + 1) y0 y1 y2 y3 y4 y5 y6 y7 y8 y9 y10 y11 y12 y13 y14 y15 y16 y17 y18 y19 y20 y21 y22 y23 y24 y25 y26 y27 y28 y29 y30 y31 y32))
  | 0 => ⟨fun _ _ _ _ _ _ _ _ _ _ _ _ _ _ _ _ _ _ _ _ _ _ _ _ _ _ _ _ _ _ _ _ _ _ r h => by simp [impl_gapCode.j0] at h, fun _ _ _ _ _ _ _ _ _ _ _ _ _ _ _ _ _ _ _ _ _ _ _ _ _ _ _ _ _ _ _ _ _ r h => by simp [impl_gapCode.j1] at h⟩
  | k + 1 => by
    obtain ⟨ih0, ih1⟩ := impl_gapCode.mono_l k
    refine ⟨?_, ?_⟩
    · intro y0 y1 y2 y3 y4 y5 y6 y7 y8 y9 y10 y11 y12 y13 y14 y15 y16 y17 y18 y19 y20 y21 y22 y23 y24 y25 y26 y27 y28 y29 y30 y31 y32 y33
      unfold impl_gapCode.j0
      repeat' first
      | (with_reducible exact ih0 _ _ _ _ _ _ _ _ _ _ _ _ _ _ _ _ _ _ _ _ _ _ _ _ _ _ _ _ _ _ _ _ _ _)
      | (with_reducible exact ih1 _ _ _ _ _ _ _ _ _ _ _ _ _ _ _ _ _ _ _ _ _ _ _ _ _ _ _ _ _ _ _ _ _)
      | (with_reducible exact impl_isSpaced.mono _ _)
      | (with_reducible exact LeO.refl _)
      | (with_reducible exact LeO.none _)
      | (with_reducible refine LeO.ite ?_ ?_)
      | (with_reducible refine LeO.bind ?_ (fun _ => ?_))
      | exact ih0 _ _ _ _ _ _ _ _ _ _ _ _ _ _ _ _ _ _ _ _ _ _ _ _ _ _ _ _ _ _ _ _ _ _
      | exact ih1 _ _ _ _ _ _ _ _ _ _ _ _ _ _ _ _ _ _ _ _ _ _ _ _ _ _ _ _ _ _ _ _ _
      | exact impl_isSpaced.mono _ _
      | exact LeO.none _
      | refine LeO.ite ?_ ?_
      | refine LeO.bind ?_ (fun _ => ?_)
    · intro y0 y1 y2 y3 y4 y5 y6 y7 y8 y9 y10 y11 y12 y13 y14 y15 y16 y17 y18 y19 y20 y21 y22 y23 y24 y25 y26 y27 y28 y29 y30 y31 y32
      unfold impl_gapCode.j1
      repeat' first
      | (with_reducible exact ih0 _ _ _ _ _ _ _ _ _ _ _ _ _ _ _ _ _ _ _ _ _ _ _ _ _ _ _ _ _ _ _ _ _ _)
      | (with_reducible exact ih1 _ _ _ _ _ _ _ _ _ _ _ _ _ _ _ _ _ _ _ _ _ _ _ _ _ _ _ _ _ _ _ _ _)
      | (with_reducible exact impl_isSpaced.mono _ _)
      | (with_reducible exact LeO.refl _)
      | (with_reducible exact LeO.none _)
      | (with_reducible refine LeO.ite ?_ ?_)
      | (with_reducible refine LeO.bind ?_ (fun _ => ?_))
      | exact ih0 _ _ _ _ _ _ _ _ _ _ _ _ _ _ _ _ _ _ _ _ _ _ _ _ _ _ _ _ _ _ _ _ _ _
      | exact ih1 _ _ _ _ _ _ _ _ _ _ _ _ _ _ _ _ _ _ _ _ _ _ _ _ _ _ _ _ _ _ _ _ _
      | exact impl_isSpaced.mono _ _
      | exact LeO.none _
      | refine LeO.ite ?_ ?_
      | refine LeO.bind ?_ (fun _ => ?_)
theorem impl_gapCode.mono : ∀ a0 a1 a2 a3 a4 a5 a6 a7 a8 a9 a10 a11 a12 a13 a14 a15 a16 a17 a18 a19 a20 a21 a22 a23 a24 a25 a26 a27 a28 a29 a30 a31 a32 a33 k, LeO (impl_gapCode.f k a0 a1 a2 a3 a4 a5 a6 a7 a8 a9 a10 a11 a12 a13 a14 a15 a16 a17 a18 a19 a20 a21 a22 a23 a24 a25 a26 a27 a28 a29 a30 a31 a32 a33) (impl_gapCode.f (k + 1) a0 a1 a2 a3 a4 a5 a6 a7 a8 a9 a10 a11 a12 a13 a14 a15 a16 a17 a18 a19 a20 a21 a22 a23 a24 a25 a26 a27 a28 a29 a30 a31 a32 a33) := by
  intro a0 a1 a2 a3 a4 a5 a6 a7 a8 a9 a10 a11 a12 a13 a14 a15 a16 a17 a18 a19 a20 a21 a22 a23 a24 a25 a26 a27 a28 a29 a30 a31 a32 a33 k
  obtain ⟨ih0, ih1⟩ := impl_gapCode.mono_l k
  unfold impl_gapCode.f
  repeat' first
      | (with_reducible exact ih0 _ _ _ _ _ _ _ _ _ _ _ _ _ _ _ _ _ _ _ _ _ _ _ _ _ _ _ _ _ _ _ _ _ _)
      | (with_reducible exact ih1 _ _ _ _ _ _ _ _ _ _ _ _ _ _ _ _ _ _ _ _ _ _ _ _ _ _ _ _ _ _ _ _ _)
      | (with_reducible exact impl_isSpaced.mono _ _)
      | (with_reducible exact LeO.refl _)
      | (with_reducible exact LeO.none _)
      | (with_reducible refine LeO.ite ?_ ?_)
      | (with_reducible refine LeO.bind ?_ (fun _ => ?_))
      | exact ih0 _ _ _ _ _ _ _ _ _ _ _ _ _ _ _ _ _ _ _ _ _ _ _ _ _ _ _ _ _ _ _ _ _ _
      | exact ih1 _ _ _ _ _ _ _ _ _ _ _ _ _ _ _ _ _ _ _ _ _ _ _ _ _ _ _ _ _ _ _ _ _
      | exact impl_isSpaced.mono _ _
      | exact LeO.none _
      | refine LeO.ite ?_ ?_
      | refine LeO.bind ?_ (fun _ => ?_)
set_option maxHeartbeats 8000000 in
set_option maxRecDepth 100000 in
theorem impl_gapCode.calls (k : Nat) (a0_0 a0_1 a0_2 a0_3 a0_4 a0_5 a0_6 a0_7 a0_8 a0_9 a0_10 a0_11 a0_12 a0_13 a0_14 a0_15 a0_16 a0_17 a0_18 a0_19 a0_20 a0_21 a0_22 a0_23 a0_24 a0_25 a0_26 a0_27 : Int) (A0_28 : Option Addr) (c0_28 : Nat) (l0_28 : List (S137)) (a0_29 : ByteArray) (a0_30 : ByteArray) (a0_31 : Int) (A1 : Option Addr) (c1 : Nat) (l1 : List ByteArray) (a2 : Int) (r : Int) (w : World) (hr0_28 : Kd.C k137 w A0_28 l0_28.length l0_28) (hc0_28 : l0_28.length ≤ c0_28) (hr1 : Kd.C Kd.string w A1 l1.length l1) (hc1 : l1.length ≤ c1) (hG : GlobM w) (h : impl_gapCode.f k a0_0 a0_1 a0_2 a0_3 a0_4 a0_5 a0_6 a0_7 a0_8 a0_9 a0_10 a0_11 a0_12 a0_13 a0_14 a0_15 a0_16 a0_17 a0_18 a0_19 a0_20 a0_21 a0_22 a0_23 a0_24 a0_25 a0_26 a0_27 l0_28 a0_29 a0_30 a0_31 l1 a2 = some r) :
    Calls Tryd.prog 90 #[.agg #[.int .i8 a0_0, .int .i8 a0_1, .int .i8 a0_2, .int .i8 a0_3, .int .i8 a0_4, .int .i8 a0_5, .int .i8 a0_6, .int .i8 a0_7, .int .i8 a0_8, .int .i8 a0_9, .int .i8 a0_10, .int .i8 a0_11, .int .i8 a0_12, .int .i8 a0_13, .int .i8 a0_14, .int .i8 a0_15, .int .i8 a0_16, .int .i8 a0_17, .int .i8 a0_18, .int .i8 a0_19, .int .i8 a0_20, .int .i8 a0_21, .int .i8 a0_22, .int .i8 a0_23, .int .i8 a0_24, .int .i8 a0_25, .int .i8 a0_26, .int .i8 a0_27, .slice A0_28 l0_28.length c0_28, .string a0_29, .string a0_30, .int .i64 a0_31], .slice A1 l1.length c1, .int .i64 a2] w fun e w' => e = .returned (.int .i64 r) ∧ Below w.heap.size w w' := by
  have HG := Aside0.mk hG
  clear hG
  have hu108 := Tryd.underlying108
  have hu32 := Tryd.underlying32
  have HR0_28 := Aside0.mk hr0_28
  have HC0_28 := Aside0.mk hc0_28
  clear hr0_28 hc0_28
  have HR1 := Aside0.mk hr1
  have HC1 := Aside0.mk hc1
  clear hr1 hc1
  have HB := Aside0.mk (Below.refl w.heap.size w)
  have H : ((impl_ValidFace.f a0_0 a0_1 a0_2 a0_3 a0_4 a0_5 a0_6 a0_7 a0_8 a0_9 a0_10 a0_11 a0_12 a0_13 a0_14 a0_15 a0_16 a0_17 a0_18 a0_19 a0_20 a0_21 a0_22 a0_23 a0_24 a0_25 a0_26 a0_27 l0_28).bind fun t1080 => (if t1080 = true then ((impl_ValidList.f l1).bind fun t1081 => (impl_gapCode.j0 k a2 (!t1081) a0_0 a0_1 a0_2 a0_3 a0_4 a0_5 a0_6 a0_7 a0_8 a0_9 a0_10 a0_11 a0_12 a0_13 a0_14 a0_15 a0_16 a0_17 a0_18 a0_19 a0_20 a0_21 a0_22 a0_23 a0_24 a0_25 a0_26 a0_27 l0_28 a0_29 a0_30 a0_31)) else (impl_gapCode.j0 k a2 true a0_0 a0_1 a0_2 a0_3 a0_4 a0_5 a0_6 a0_7 a0_8 a0_9 a0_10 a0_11 a0_12 a0_13 a0_14 a0_15 a0_16 a0_17 a0_18 a0_19 a0_20 a0_21 a0_22 a0_23 a0_24 a0_25 a0_26 a0_27 l0_28 a0_29 a0_30 a0_31))) = some r := h
  clear h
  have HC4 := Aside0.mk H
  clear H
  go_enter Tryd.func90, Tryd.ntmps90
  go_upto_region 1 with (first | ((with_reducible refine gate_dst (N := 3) rfl ?_); refine box_event ?hg (N := 3) ?hd (cs := #[.int .i8 a0_0, .int .i8 a0_1, .int .i8 a0_2, .int .i8 a0_3, .int .i8 a0_4, .int .i8 a0_5, .int .i8 a0_6, .int .i8 a0_7, .int .i8 a0_8, .int .i8 a0_9, .int .i8 a0_10, .int .i8 a0_11, .int .i8 a0_12, .int .i8 a0_13, .int .i8 a0_14, .int .i8 a0_15, .int .i8 a0_16, .int .i8 a0_17, .int .i8 a0_18, .int .i8 a0_19, .int .i8 a0_20, .int .i8 a0_21, .int .i8 a0_22, .int .i8 a0_23, .int .i8 a0_24, .int .i8 a0_25, .int .i8 a0_26, .int .i8 a0_27, .slice A0_28 l0_28.length c0_28, .string a0_29, .string a0_30, .int .i64 a0_31]) (t := 108) ?hr ?_; (case hd => rfl); (case hg => rfl); (case hr => first | (go_simp; done) | (go_simp; rfl)); intro gb1079 hg w5 hbox hb; have n0_ := Aside0.mk (below_step (by repeat (first | (with_reducible first | exact HB.out | apply below_alloc | apply pw_below_drewN | apply below_drew1) | exact HB.out)) hb); have n1_ := Aside0.mk (hbox); have n2_ := Aside0.mk ((by rw [hg]; exact (below_size (by repeat (first | (with_reducible first | exact HB.out | apply below_alloc | apply pw_below_drewN | apply below_drew1) | exact HB.out))) : w.heap.size ≤ gb1079)); have n3_ := Aside0.mk ((by rw [hg]; exact (below_size (by repeat (first | (with_reducible first | exact HB.out | apply below_alloc | apply pw_below_drewN | apply below_drew1) | exact HB.out))) : w.heap.size ≤ gb1079)); clear HB; have HB := n0_; have BK1079 := n1_; have GW1079 := n2_; have GE1079 := n3_; clear n0_ n1_ n2_ n3_; clear hb hbox hg))
  (try simp only [Act.put, List.setIfInBounds_toArray, List.set_cons_zero, List.set_cons_succ])
  go_cut [7] (fun v7 wc => ∃ (kq : Nat) (x7_3 : Bool), v7 = .bool x7_3 ∧ Aside0 (impl_gapCode.j0 kq a2 x7_3 a0_0 a0_1 a0_2 a0_3 a0_4 a0_5 a0_6 a0_7 a0_8 a0_9 a0_10 a0_11 a0_12 a0_13 a0_14 a0_15 a0_16 a0_17 a0_18 a0_19 a0_20 a0_21 a0_22 a0_23 a0_24 a0_25 a0_26 a0_27 l0_28 a0_29 a0_30 a0_31 = some r) ∧ Aside0 (kq ≤ k) ∧ Aside0 (wc.heap[gb1079]? = some (.cells #[.int .i8 a0_0, .int .i8 a0_1, .int .i8 a0_2, .int .i8 a0_3, .int .i8 a0_4, .int .i8 a0_5, .int .i8 a0_6, .int .i8 a0_7, .int .i8 a0_8, .int .i8 a0_9, .int .i8 a0_10, .int .i8 a0_11, .int .i8 a0_12, .int .i8 a0_13, .int .i8 a0_14, .int .i8 a0_15, .int .i8 a0_16, .int .i8 a0_17, .int .i8 a0_18, .int .i8 a0_19, .int .i8 a0_20, .int .i8 a0_21, .int .i8 a0_22, .int .i8 a0_23, .int .i8 a0_24, .int .i8 a0_25, .int .i8 a0_26, .int .i8 a0_27, (.slice A0_28 l0_28.length c0_28), .string a0_29, .string a0_30, .int .i64 a0_31] 108 (0, 0))) ∧ Aside0 (Below w.heap.size w wc))
  case first =>
    have H := HC4.out
    clear HC4
    replace H := Option.bind_eq_some_iff.mp H
    obtain ⟨t1080, A60, H⟩ := H
    replace H : (if t1080 = true then ((impl_ValidList.f l1).bind fun t1081 => (impl_gapCode.j0 k a2 (!t1081) a0_0 a0_1 a0_2 a0_3 a0_4 a0_5 a0_6 a0_7 a0_8 a0_9 a0_10 a0_11 a0_12 a0_13 a0_14 a0_15 a0_16 a0_17 a0_18 a0_19 a0_20 a0_21 a0_22 a0_23 a0_24 a0_25 a0_26 a0_27 l0_28 a0_29 a0_30 a0_31)) else (impl_gapCode.j0 k a2 true a0_0 a0_1 a0_2 a0_3 a0_4 a0_5 a0_6 a0_7 a0_8 a0_9 a0_10 a0_11 a0_12 a0_13 a0_14 a0_15 a0_16 a0_17 a0_18 a0_19 a0_20 a0_21 a0_22 a0_23 a0_24 a0_25 a0_26 a0_27 l0_28 a0_29 a0_30 a0_31)) = some r := H
    have A6 := Aside0.mk A60
    clear A60
    by_cases c7 : t1080 = true
    · subst c7
      have H1 : ((impl_ValidList.f l1).bind fun t1081 => (impl_gapCode.j0 k a2 (!t1081) a0_0 a0_1 a0_2 a0_3 a0_4 a0_5 a0_6 a0_7 a0_8 a0_9 a0_10 a0_11 a0_12 a0_13 a0_14 a0_15 a0_16 a0_17 a0_18 a0_19 a0_20 a0_21 a0_22 a0_23 a0_24 a0_25 a0_26 a0_27 l0_28 a0_29 a0_30 a0_31)) = some r := by rw [if_pos rfl] at H; exact H
      clear H
      have H := H1
      clear H1
      replace H := Option.bind_eq_some_iff.mp H
      obtain ⟨t1081, A80, H⟩ := H
      replace H : (impl_gapCode.j0 k a2 (!t1081) a0_0 a0_1 a0_2 a0_3 a0_4 a0_5 a0_6 a0_7 a0_8 a0_9 a0_10 a0_11 a0_12 a0_13 a0_14 a0_15 a0_16 a0_17 a0_18 a0_19 a0_20 a0_21 a0_22 a0_23 a0_24 a0_25 a0_26 a0_27 l0_28 a0_29 a0_30 a0_31) = some r := H
      have A8 := Aside0.mk A80
      clear A80
      have H' := Aside0.mk H
      clear H
      go_wp2_with (first | ((with_reducible refine gate_dst (N := 9) rfl ?_); refine wpList_load_mid rfl 32 (.tmp 8) rfl gb1079 0 rfl [.int .i8 a0_0, .int .i8 a0_1, .int .i8 a0_2, .int .i8 a0_3, .int .i8 a0_4, .int .i8 a0_5, .int .i8 a0_6, .int .i8 a0_7, .int .i8 a0_8, .int .i8 a0_9, .int .i8 a0_10, .int .i8 a0_11, .int .i8 a0_12, .int .i8 a0_13, .int .i8 a0_14, .int .i8 a0_15, .int .i8 a0_16, .int .i8 a0_17, .int .i8 a0_18, .int .i8 a0_19, .int .i8 a0_20, .int .i8 a0_21, .int .i8 a0_22, .int .i8 a0_23, .int .i8 a0_24, .int .i8 a0_25, .int .i8 a0_26, .int .i8 a0_27, .slice A0_28 l0_28.length c0_28] _ (range_partx_ [] [.int .i8 a0_0, .int .i8 a0_1, .int .i8 a0_2, .int .i8 a0_3, .int .i8 a0_4, .int .i8 a0_5, .int .i8 a0_6, .int .i8 a0_7, .int .i8 a0_8, .int .i8 a0_9, .int .i8 a0_10, .int .i8 a0_11, .int .i8 a0_12, .int .i8 a0_13, .int .i8 a0_14, .int .i8 a0_15, .int .i8 a0_16, .int .i8 a0_17, .int .i8 a0_18, .int .i8 a0_19, .int .i8 a0_20, .int .i8 a0_21, .int .i8 a0_22, .int .i8 a0_23, .int .i8 a0_24, .int .i8 a0_25, .int .i8 a0_26, .int .i8 a0_27, .slice A0_28 l0_28.length c0_28] [.string a0_29, .string a0_30, .int .i64 a0_31] 0 rfl (by (with_reducible repeat (first | refine blk_drewN ?_ _ | refine blk_drew ?_ | refine blk_alloc ?_ _)); exact BK1079.out)) Tryd.underlying32 rfl (by exact (show (Tryd.prog.info? 32).map (·.size) = some 29 by kernel_rfl)) ?_) | ((with_reducible refine gate_callee (f := 68) rfl ?_); refine goesL_ (some 10) rfl rfl Tryd.func68 (by kernel_rfl) rfl #[.agg #[.int .i8 a0_0, .int .i8 a0_1, .int .i8 a0_2, .int .i8 a0_3, .int .i8 a0_4, .int .i8 a0_5, .int .i8 a0_6, .int .i8 a0_7, .int .i8 a0_8, .int .i8 a0_9, .int .i8 a0_10, .int .i8 a0_11, .int .i8 a0_12, .int .i8 a0_13, .int .i8 a0_14, .int .i8 a0_15, .int .i8 a0_16, .int .i8 a0_17, .int .i8 a0_18, .int .i8 a0_19, .int .i8 a0_20, .int .i8 a0_21, .int .i8 a0_22, .int .i8 a0_23, .int .i8 a0_24, .int .i8 a0_25, .int .i8 a0_26, .int .i8 a0_27, .slice A0_28 l0_28.length c0_28]] rfl (by (try simp only [List.map_toArray, List.map_cons, List.map_nil]); first | done | rfl | (simp only [List.length_drop, List.length_take]; rfl)) ?_; (with_reducible refine (impl_ValidFace.calls a0_0 a0_1 a0_2 a0_3 a0_4 a0_5 a0_6 a0_7 a0_8 a0_9 a0_10 a0_11 a0_12 a0_13 a0_14 a0_15 a0_16 a0_17 a0_18 a0_19 a0_20 a0_21 a0_22 a0_23 a0_24 a0_25 a0_26 a0_27 _ _ l0_28 true _ ?side1 ?side2 A6.out).mono ?_); (case side1 => repeat (first | exact (Kd.C_below HR0_28.out HB.out) | (with_reducible refine Kd.C_alloc ?_ _) | (with_reducible refine Kd.C_drewN ?_ _) | (with_reducible refine Kd.C_drew ?_))); (case side2 => exact HC0_28.out); rintro e w9 ⟨rfl, hb⟩; refine ⟨_, rfl, ?_⟩; have n0_ := Aside0.mk (blk_below (g := gb1079) (o := .cells #[.int .i8 a0_0, .int .i8 a0_1, .int .i8 a0_2, .int .i8 a0_3, .int .i8 a0_4, .int .i8 a0_5, .int .i8 a0_6, .int .i8 a0_7, .int .i8 a0_8, .int .i8 a0_9, .int .i8 a0_10, .int .i8 a0_11, .int .i8 a0_12, .int .i8 a0_13, .int .i8 a0_14, .int .i8 a0_15, .int .i8 a0_16, .int .i8 a0_17, .int .i8 a0_18, .int .i8 a0_19, .int .i8 a0_20, .int .i8 a0_21, .int .i8 a0_22, .int .i8 a0_23, .int .i8 a0_24, .int .i8 a0_25, .int .i8 a0_26, .int .i8 a0_27, .slice A0_28 l0_28.length c0_28, .string a0_29, .string a0_30, .int .i64 a0_31] 108 (0, 0)) (by (with_reducible repeat (first | refine blk_drewN ?_ _ | refine blk_drew ?_ | refine blk_alloc ?_ _)); exact BK1079.out) hb); have n1_ := Aside0.mk (below_step (by repeat (first | (with_reducible first | exact HB.out | apply below_alloc | apply pw_below_drewN | apply below_drew1 | refine below_set ?_ GE1079.out) | exact HB.out)) hb); clear BK1079; clear HB; have BK1079 := n0_; have HB := n1_; clear n0_ n1_; (try clear hb); (try clear hb2); (try clear hk); (try clear hi)) | (go_at_call 134; (with_reducible refine (impl_ValidList.calls _ _ l1 t1081 _ ?side1 ?side2 ?sideG A8.out).mono ?_); (case sideG => first | exact HG.out.below (by repeat (first | (with_reducible first | exact HB.out | apply below_alloc | apply pw_below_drewN | apply below_drew1) | exact HB.out)) | exact (HG.out.below (by repeat (first | (with_reducible first | exact HB.out | apply below_alloc | apply pw_below_drewN | apply below_drew1) | exact HB.out))).toM); (case side1 => repeat (first | exact (Kd.C_below HR1.out HB.out) | (with_reducible refine Kd.C_alloc ?_ _) | (with_reducible refine Kd.C_drewN ?_ _) | (with_reducible refine Kd.C_drew ?_))); (case side2 => exact HC1.out); rintro e w10 ⟨rfl, hb⟩; have n0_ := Aside0.mk (blk_below (g := gb1079) (o := .cells #[.int .i8 a0_0, .int .i8 a0_1, .int .i8 a0_2, .int .i8 a0_3, .int .i8 a0_4, .int .i8 a0_5, .int .i8 a0_6, .int .i8 a0_7, .int .i8 a0_8, .int .i8 a0_9, .int .i8 a0_10, .int .i8 a0_11, .int .i8 a0_12, .int .i8 a0_13, .int .i8 a0_14, .int .i8 a0_15, .int .i8 a0_16, .int .i8 a0_17, .int .i8 a0_18, .int .i8 a0_19, .int .i8 a0_20, .int .i8 a0_21, .int .i8 a0_22, .int .i8 a0_23, .int .i8 a0_24, .int .i8 a0_25, .int .i8 a0_26, .int .i8 a0_27, .slice A0_28 l0_28.length c0_28, .string a0_29, .string a0_30, .int .i64 a0_31] 108 (0, 0)) (by (with_reducible repeat (first | refine blk_drewN ?_ _ | refine blk_drew ?_ | refine blk_alloc ?_ _)); exact BK1079.out) hb); have n1_ := Aside0.mk (below_step (by repeat (first | (with_reducible first | exact HB.out | apply below_alloc | apply pw_below_drewN | apply below_drew1 | refine below_set ?_ GE1079.out) | exact HB.out)) hb); clear BK1079; clear HB; have BK1079 := n0_; have HB := n1_; clear n0_ n1_; (try clear hb); (try clear hb2); (try clear hk); (try clear hi)))
      go_meet
      case rel => exact ⟨_, (!t1081), (by first | rfl | (simp; done) | (simp [*]; done)), H', ⟨by first | omega | exact Nat.le_refl _⟩, ⟨by (with_reducible repeat (first | refine blk_drewN ?_ _ | refine blk_drew ?_ | refine blk_alloc ?_ _)); exact BK1079.out⟩, ⟨by repeat (first | (with_reducible first | exact HB.out | apply below_alloc | apply pw_below_drewN | apply below_drew1 | refine below_set ?_ GE1079.out) | exact HB.out)⟩⟩
    · replace c7 := Bool.eq_false_iff.mpr c7
      subst c7
      have H1 : (impl_gapCode.j0 k a2 true a0_0 a0_1 a0_2 a0_3 a0_4 a0_5 a0_6 a0_7 a0_8 a0_9 a0_10 a0_11 a0_12 a0_13 a0_14 a0_15 a0_16 a0_17 a0_18 a0_19 a0_20 a0_21 a0_22 a0_23 a0_24 a0_25 a0_26 a0_27 l0_28 a0_29 a0_30 a0_31) = some r := by rw [if_neg (show ¬ (false = true) by decide)] at H; exact H
      clear H
      have H := H1
      clear H1
      have H' := Aside0.mk H
      clear H
      go_wp2_with (first | ((with_reducible refine gate_dst (N := 9) rfl ?_); refine wpList_load_mid rfl 32 (.tmp 8) rfl gb1079 0 rfl [.int .i8 a0_0, .int .i8 a0_1, .int .i8 a0_2, .int .i8 a0_3, .int .i8 a0_4, .int .i8 a0_5, .int .i8 a0_6, .int .i8 a0_7, .int .i8 a0_8, .int .i8 a0_9, .int .i8 a0_10, .int .i8 a0_11, .int .i8 a0_12, .int .i8 a0_13, .int .i8 a0_14, .int .i8 a0_15, .int .i8 a0_16, .int .i8 a0_17, .int .i8 a0_18, .int .i8 a0_19, .int .i8 a0_20, .int .i8 a0_21, .int .i8 a0_22, .int .i8 a0_23, .int .i8 a0_24, .int .i8 a0_25, .int .i8 a0_26, .int .i8 a0_27, .slice A0_28 l0_28.length c0_28] _ (range_partx_ [] [.int .i8 a0_0, .int .i8 a0_1, .int .i8 a0_2, .int .i8 a0_3, .int .i8 a0_4, .int .i8 a0_5, .int .i8 a0_6, .int .i8 a0_7, .int .i8 a0_8, .int .i8 a0_9, .int .i8 a0_10, .int .i8 a0_11, .int .i8 a0_12, .int .i8 a0_13, .int .i8 a0_14, .int .i8 a0_15, .int .i8 a0_16, .int .i8 a0_17, .int .i8 a0_18, .int .i8 a0_19, .int .i8 a0_20, .int .i8 a0_21, .int .i8 a0_22, .int .i8 a0_23, .int .i8 a0_24, .int .i8 a0_25, .int .i8 a0_26, .int .i8 a0_27, .slice A0_28 l0_28.length c0_28] [.string a0_29, .string a0_30, .int .i64 a0_31] 0 rfl (by (with_reducible repeat (first | refine blk_drewN ?_ _ | refine blk_drew ?_ | refine blk_alloc ?_ _)); exact BK1079.out)) Tryd.underlying32 rfl (by exact (show (Tryd.prog.info? 32).map (·.size) = some 29 by kernel_rfl)) ?_) | ((with_reducible refine gate_callee (f := 68) rfl ?_); refine goesL_ (some 10) rfl rfl Tryd.func68 (by kernel_rfl) rfl #[.agg #[.int .i8 a0_0, .int .i8 a0_1, .int .i8 a0_2, .int .i8 a0_3, .int .i8 a0_4, .int .i8 a0_5, .int .i8 a0_6, .int .i8 a0_7, .int .i8 a0_8, .int .i8 a0_9, .int .i8 a0_10, .int .i8 a0_11, .int .i8 a0_12, .int .i8 a0_13, .int .i8 a0_14, .int .i8 a0_15, .int .i8 a0_16, .int .i8 a0_17, .int .i8 a0_18, .int .i8 a0_19, .int .i8 a0_20, .int .i8 a0_21, .int .i8 a0_22, .int .i8 a0_23, .int .i8 a0_24, .int .i8 a0_25, .int .i8 a0_26, .int .i8 a0_27, .slice A0_28 l0_28.length c0_28]] rfl (by (try simp only [List.map_toArray, List.map_cons, List.map_nil]); first | done | rfl | (simp only [List.length_drop, List.length_take]; rfl)) ?_; (with_reducible refine (impl_ValidFace.calls a0_0 a0_1 a0_2 a0_3 a0_4 a0_5 a0_6 a0_7 a0_8 a0_9 a0_10 a0_11 a0_12 a0_13 a0_14 a0_15 a0_16 a0_17 a0_18 a0_19 a0_20 a0_21 a0_22 a0_23 a0_24 a0_25 a0_26 a0_27 _ _ l0_28 false _ ?side1 ?side2 A6.out).mono ?_); (case side1 => repeat (first | exact (Kd.C_below HR0_28.out HB.out) | (with_reducible refine Kd.C_alloc ?_ _) | (with_reducible refine Kd.C_drewN ?_ _) | (with_reducible refine Kd.C_drew ?_))); (case side2 => exact HC0_28.out); rintro e w11 ⟨rfl, hb⟩; refine ⟨_, rfl, ?_⟩; have n0_ := Aside0.mk (blk_below (g := gb1079) (o := .cells #[.int .i8 a0_0, .int .i8 a0_1, .int .i8 a0_2, .int .i8 a0_3, .int .i8 a0_4, .int .i8 a0_5, .int .i8 a0_6, .int .i8 a0_7, .int .i8 a0_8, .int .i8 a0_9, .int .i8 a0_10, .int .i8 a0_11, .int .i8 a0_12, .int .i8 a0_13, .int .i8 a0_14, .int .i8 a0_15, .int .i8 a0_16, .int .i8 a0_17, .int .i8 a0_18, .int .i8 a0_19, .int .i8 a0_20, .int .i8 a0_21, .int .i8 a0_22, .int .i8 a0_23, .int .i8 a0_24, .int .i8 a0_25, .int .i8 a0_26, .int .i8 a0_27, .slice A0_28 l0_28.length c0_28, .string a0_29, .string a0_30, .int .i64 a0_31] 108 (0, 0)) (by (with_reducible repeat (first | refine blk_drewN ?_ _ | refine blk_drew ?_ | refine blk_alloc ?_ _)); exact BK1079.out) hb); have n1_ := Aside0.mk (below_step (by repeat (first | (with_reducible first | exact HB.out | apply below_alloc | apply pw_below_drewN | apply below_drew1 | refine below_set ?_ GE1079.out) | exact HB.out)) hb); clear BK1079; clear HB; have BK1079 := n0_; have HB := n1_; clear n0_ n1_; (try clear hb); (try clear hb2); (try clear hk); (try clear hi)))
      go_meet
      case rel => exact ⟨_, (true), (by first | rfl | (simp; done) | (simp [*]; done)), H', ⟨by first | omega | exact Nat.le_refl _⟩, ⟨by (with_reducible repeat (first | refine blk_drewN ?_ _ | refine blk_drew ?_ | refine blk_alloc ?_ _)); exact BK1079.out⟩, ⟨by repeat (first | (with_reducible first | exact HB.out | apply below_alloc | apply pw_below_drewN | apply below_drew1 | refine below_set ?_ GE1079.out) | exact HB.out)⟩⟩
  case rest =>
    clear HC4
    try clear c1
    try clear p2
    try clear c6
    try clear c7
    try clear c9
    obtain ⟨kq, x7_3, rfl, HA, HJ3, BK1079, HB⟩ := hcut
    cases kq with
    | zero => exact absurd HA.out (by simp [impl_gapCode.j0])
    | succ kj3 =>
      have H := HA.out
      clear HA
      simp only [impl_gapCode.j0] at H
      by_cases c12 : x7_3 = true
      · subst c12
        have H1 : (some 1) = some r := by rw [if_pos rfl] at H; exact H
        clear H
        have H := H1
        clear H1
        obtain rfl := Option.some.inj H
        go_wp2
        go_ret
        exact ⟨by first | rfl | (simp [errW_none, errW_some] <;> rfl) | (simp [*, errW_none, errW_some] <;> rfl), by repeat (first | (with_reducible first | exact HB.out | apply below_alloc | apply pw_below_drewN | apply below_drew1 | refine below_set ?_ GE1079.out) | exact HB.out)⟩
      · replace c12 := Bool.eq_false_iff.mpr c12
        subst c12
        have H1 : ((impl_within.f a0_31 0 4000).bind fun t1082 => (if t1082 = true then ((impl_within.f a2 0 100).bind fun t1083 => (impl_gapCode.j1 kj3 (!t1083) a0_0 a0_1 a0_2 a0_3 a0_4 a0_5 a0_6 a0_7 a0_8 a0_9 a0_10 a0_11 a0_12 a0_13 a0_14 a0_15 a0_16 a0_17 a0_18 a0_19 a0_20 a0_21 a0_22 a0_23 a0_24 a0_25 a0_26 a0_27 l0_28 a0_29 a0_30 a0_31)) else (impl_gapCode.j1 kj3 true a0_0 a0_1 a0_2 a0_3 a0_4 a0_5 a0_6 a0_7 a0_8 a0_9 a0_10 a0_11 a0_12 a0_13 a0_14 a0_15 a0_16 a0_17 a0_18 a0_19 a0_20 a0_21 a0_22 a0_23 a0_24 a0_25 a0_26 a0_27 l0_28 a0_29 a0_30 a0_31))) = some r := by rw [if_neg (show ¬ (false = true) by decide)] at H; exact H
        clear H
        have H := H1
        clear H1
        have HC13 := Aside0.mk H
        clear H
        go_upto_region 3 with (fail)
        go_cut [17] (fun v17 wc => ∃ (kq : Nat) (x17_12 : Bool), v17 = .bool x17_12 ∧ Aside0 (impl_gapCode.j1 kq x17_12 a0_0 a0_1 a0_2 a0_3 a0_4 a0_5 a0_6 a0_7 a0_8 a0_9 a0_10 a0_11 a0_12 a0_13 a0_14 a0_15 a0_16 a0_17 a0_18 a0_19 a0_20 a0_21 a0_22 a0_23 a0_24 a0_25 a0_26 a0_27 l0_28 a0_29 a0_30 a0_31 = some r) ∧ Aside0 (kq ≤ kj3) ∧ Aside0 (wc.heap[gb1079]? = some (.cells #[.int .i8 a0_0, .int .i8 a0_1, .int .i8 a0_2, .int .i8 a0_3, .int .i8 a0_4, .int .i8 a0_5, .int .i8 a0_6, .int .i8 a0_7, .int .i8 a0_8, .int .i8 a0_9, .int .i8 a0_10, .int .i8 a0_11, .int .i8 a0_12, .int .i8 a0_13, .int .i8 a0_14, .int .i8 a0_15, .int .i8 a0_16, .int .i8 a0_17, .int .i8 a0_18, .int .i8 a0_19, .int .i8 a0_20, .int .i8 a0_21, .int .i8 a0_22, .int .i8 a0_23, .int .i8 a0_24, .int .i8 a0_25, .int .i8 a0_26, .int .i8 a0_27, (.slice A0_28 l0_28.length c0_28), .string a0_29, .string a0_30, .int .i64 a0_31] 108 (0, 0))) ∧ Aside0 (Below w.heap.size w wc))
        case first =>
          have H := HC13.out
          clear HC13
          replace H := Option.bind_eq_some_iff.mp H
          obtain ⟨t1082, A140, H⟩ := H
          replace H : (if t1082 = true then ((impl_within.f a2 0 100).bind fun t1083 => (impl_gapCode.j1 kj3 (!t1083) a0_0 a0_1 a0_2 a0_3 a0_4 a0_5 a0_6 a0_7 a0_8 a0_9 a0_10 a0_11 a0_12 a0_13 a0_14 a0_15 a0_16 a0_17 a0_18 a0_19 a0_20 a0_21 a0_22 a0_23 a0_24 a0_25 a0_26 a0_27 l0_28 a0_29 a0_30 a0_31)) else (impl_gapCode.j1 kj3 true a0_0 a0_1 a0_2 a0_3 a0_4 a0_5 a0_6 a0_7 a0_8 a0_9 a0_10 a0_11 a0_12 a0_13 a0_14 a0_15 a0_16 a0_17 a0_18 a0_19 a0_20 a0_21 a0_22 a0_23 a0_24 a0_25 a0_26 a0_27 l0_28 a0_29 a0_30 a0_31)) = some r := H
          have A14 := Aside0.mk A140
          clear A140
          by_cases c15 : t1082 = true
          · subst c15
            have H1 : ((impl_within.f a2 0 100).bind fun t1083 => (impl_gapCode.j1 kj3 (!t1083) a0_0 a0_1 a0_2 a0_3 a0_4 a0_5 a0_6 a0_7 a0_8 a0_9 a0_10 a0_11 a0_12 a0_13 a0_14 a0_15 a0_16 a0_17 a0_18 a0_19 a0_20 a0_21 a0_22 a0_23 a0_24 a0_25 a0_26 a0_27 l0_28 a0_29 a0_30 a0_31)) = some r := by rw [if_pos rfl] at H; exact H
            clear H
            have H := H1
            clear H1
            replace H := Option.bind_eq_some_iff.mp H
            obtain ⟨t1083, A160, H⟩ := H
            replace H : (impl_gapCode.j1 kj3 (!t1083) a0_0 a0_1 a0_2 a0_3 a0_4 a0_5 a0_6 a0_7 a0_8 a0_9 a0_10 a0_11 a0_12 a0_13 a0_14 a0_15 a0_16 a0_17 a0_18 a0_19 a0_20 a0_21 a0_22 a0_23 a0_24 a0_25 a0_26 a0_27 l0_28 a0_29 a0_30 a0_31) = some r := H
            have A16 := Aside0.mk A160
            clear A160
            have H' := Aside0.mk H
            clear H
            have hcz17_0 : wc.cell? ⟨gb1079, 0, none⟩ = some (.int .i8 a0_0) := (blk_cell BK1079.out 0).trans rfl
            have hcz17_1 : wc.cell? ⟨gb1079, 1, none⟩ = some (.int .i8 a0_1) := (blk_cell BK1079.out 1).trans rfl
            have hcz17_2 : wc.cell? ⟨gb1079, 2, none⟩ = some (.int .i8 a0_2) := (blk_cell BK1079.out 2).trans rfl
            have hcz17_3 : wc.cell? ⟨gb1079, 3, none⟩ = some (.int .i8 a0_3) := (blk_cell BK1079.out 3).trans rfl
            have hcz17_4 : wc.cell? ⟨gb1079, 4, none⟩ = some (.int .i8 a0_4) := (blk_cell BK1079.out 4).trans rfl
            have hcz17_5 : wc.cell? ⟨gb1079, 5, none⟩ = some (.int .i8 a0_5) := (blk_cell BK1079.out 5).trans rfl
            have hcz17_6 : wc.cell? ⟨gb1079, 6, none⟩ = some (.int .i8 a0_6) := (blk_cell BK1079.out 6).trans rfl
            have hcz17_7 : wc.cell? ⟨gb1079, 7, none⟩ = some (.int .i8 a0_7) := (blk_cell BK1079.out 7).trans rfl
            have hcz17_8 : wc.cell? ⟨gb1079, 8, none⟩ = some (.int .i8 a0_8) := (blk_cell BK1079.out 8).trans rfl
            have hcz17_9 : wc.cell? ⟨gb1079, 9, none⟩ = some (.int .i8 a0_9) := (blk_cell BK1079.out 9).trans rfl
            have hcz17_10 : wc.cell? ⟨gb1079, 10, none⟩ = some (.int .i8 a0_10) := (blk_cell BK1079.out 10).trans rfl
            have hcz17_11 : wc.cell? ⟨gb1079, 11, none⟩ = some (.int .i8 a0_11) := (blk_cell BK1079.out 11).trans rfl
            have hcz17_12 : wc.cell? ⟨gb1079, 12, none⟩ = some (.int .i8 a0_12) := (blk_cell BK1079.out 12).trans rfl
            have hcz17_13 : wc.cell? ⟨gb1079, 13, none⟩ = some (.int .i8 a0_13) := (blk_cell BK1079.out 13).trans rfl
            have hcz17_14 : wc.cell? ⟨gb1079, 14, none⟩ = some (.int .i8 a0_14) := (blk_cell BK1079.out 14).trans rfl
            have hcz17_15 : wc.cell? ⟨gb1079, 15, none⟩ = some (.int .i8 a0_15) := (blk_cell BK1079.out 15).trans rfl
            have hcz17_16 : wc.cell? ⟨gb1079, 16, none⟩ = some (.int .i8 a0_16) := (blk_cell BK1079.out 16).trans rfl
            have hcz17_17 : wc.cell? ⟨gb1079, 17, none⟩ = some (.int .i8 a0_17) := (blk_cell BK1079.out 17).trans rfl
            have hcz17_18 : wc.cell? ⟨gb1079, 18, none⟩ = some (.int .i8 a0_18) := (blk_cell BK1079.out 18).trans rfl
            have hcz17_19 : wc.cell? ⟨gb1079, 19, none⟩ = some (.int .i8 a0_19) := (blk_cell BK1079.out 19).trans rfl
            have hcz17_20 : wc.cell? ⟨gb1079, 20, none⟩ = some (.int .i8 a0_20) := (blk_cell BK1079.out 20).trans rfl
            have hcz17_21 : wc.cell? ⟨gb1079, 21, none⟩ = some (.int .i8 a0_21) := (blk_cell BK1079.out 21).trans rfl
            have hcz17_22 : wc.cell? ⟨gb1079, 22, none⟩ = some (.int .i8 a0_22) := (blk_cell BK1079.out 22).trans rfl
            have hcz17_23 : wc.cell? ⟨gb1079, 23, none⟩ = some (.int .i8 a0_23) := (blk_cell BK1079.out 23).trans rfl
            have hcz17_24 : wc.cell? ⟨gb1079, 24, none⟩ = some (.int .i8 a0_24) := (blk_cell BK1079.out 24).trans rfl
            have hcz17_25 : wc.cell? ⟨gb1079, 25, none⟩ = some (.int .i8 a0_25) := (blk_cell BK1079.out 25).trans rfl
            have hcz17_26 : wc.cell? ⟨gb1079, 26, none⟩ = some (.int .i8 a0_26) := (blk_cell BK1079.out 26).trans rfl
            have hcz17_27 : wc.cell? ⟨gb1079, 27, none⟩ = some (.int .i8 a0_27) := (blk_cell BK1079.out 27).trans rfl
            have hcz17_28 : wc.cell? ⟨gb1079, 28, none⟩ = some (.slice A0_28 l0_28.length c0_28) := (blk_cell BK1079.out 28).trans rfl
            have hcz17_29 : wc.cell? ⟨gb1079, 29, none⟩ = some (.string a0_29) := (blk_cell BK1079.out 29).trans rfl
            have hcz17_30 : wc.cell? ⟨gb1079, 30, none⟩ = some (.string a0_30) := (blk_cell BK1079.out 30).trans rfl
            have hcz17_31 : wc.cell? ⟨gb1079, 31, none⟩ = some (.int .i64 a0_31) := (blk_cell BK1079.out 31).trans rfl
            have hfz17_0 := blk_frozen BK1079.out 0
            have hfz17_1 := blk_frozen BK1079.out 1
            have hfz17_2 := blk_frozen BK1079.out 2
            have hfz17_3 := blk_frozen BK1079.out 3
            have hfz17_4 := blk_frozen BK1079.out 4
            have hfz17_5 := blk_frozen BK1079.out 5
            have hfz17_6 := blk_frozen BK1079.out 6
            have hfz17_7 := blk_frozen BK1079.out 7
            have hfz17_8 := blk_frozen BK1079.out 8
            have hfz17_9 := blk_frozen BK1079.out 9
            have hfz17_10 := blk_frozen BK1079.out 10
            have hfz17_11 := blk_frozen BK1079.out 11
            have hfz17_12 := blk_frozen BK1079.out 12
            have hfz17_13 := blk_frozen BK1079.out 13
            have hfz17_14 := blk_frozen BK1079.out 14
            have hfz17_15 := blk_frozen BK1079.out 15
            have hfz17_16 := blk_frozen BK1079.out 16
            have hfz17_17 := blk_frozen BK1079.out 17
            have hfz17_18 := blk_frozen BK1079.out 18
            have hfz17_19 := blk_frozen BK1079.out 19
            have hfz17_20 := blk_frozen BK1079.out 20
            have hfz17_21 := blk_frozen BK1079.out 21
            have hfz17_22 := blk_frozen BK1079.out 22
            have hfz17_23 := blk_frozen BK1079.out 23
            have hfz17_24 := blk_frozen BK1079.out 24
            have hfz17_25 := blk_frozen BK1079.out 25
            have hfz17_26 := blk_frozen BK1079.out 26
            have hfz17_27 := blk_frozen BK1079.out 27
            have hfz17_28 := blk_frozen BK1079.out 28
            have hfz17_29 := blk_frozen BK1079.out 29
            have hfz17_30 := blk_frozen BK1079.out 30
            have hfz17_31 := blk_frozen BK1079.out 31
            go_wp2_with (first | ((with_reducible refine gate_callee (f := 85) rfl ?_); refine goesL_ (some 20) rfl rfl Tryd.func85 (by kernel_rfl) rfl #[.int .i64 a0_31, .int .i64 0, .int .i64 4000] rfl (by (try simp only [List.map_toArray, List.map_cons, List.map_nil]); first | done | rfl | (simp only [List.length_drop, List.length_take]; rfl)) ?_; (with_reducible refine (impl_within.calls a0_31 0 4000 true _ A14.out).mono ?_); rintro e w' ⟨rfl, ⟨nd, rfl⟩⟩; refine ⟨_, rfl, ?_⟩) | (go_at_call 85; (with_reducible refine (impl_within.calls a2 0 100 t1083 _ A16.out).mono ?_); rintro e w' ⟨rfl, ⟨nd, rfl⟩⟩))
            go_meet
            case rel => exact ⟨_, (!t1083), (by first | rfl | (simp; done) | (simp [*]; done)), H', ⟨by have := HJ3.out; first | omega | exact Nat.le_refl _⟩, ⟨by (with_reducible repeat (first | refine blk_drewN ?_ _ | refine blk_drew ?_ | refine blk_alloc ?_ _)); exact BK1079.out⟩, ⟨by repeat (first | (with_reducible first | exact HB.out | apply below_alloc | apply pw_below_drewN | apply below_drew1 | refine below_set ?_ GE1079.out) | exact HB.out)⟩⟩
          · replace c15 := Bool.eq_false_iff.mpr c15
            subst c15
            have H1 : (impl_gapCode.j1 kj3 true a0_0 a0_1 a0_2 a0_3 a0_4 a0_5 a0_6 a0_7 a0_8 a0_9 a0_10 a0_11 a0_12 a0_13 a0_14 a0_15 a0_16 a0_17 a0_18 a0_19 a0_20 a0_21 a0_22 a0_23 a0_24 a0_25 a0_26 a0_27 l0_28 a0_29 a0_30 a0_31) = some r := by rw [if_neg (show ¬ (false = true) by decide)] at H; exact H
            clear H
            have H := H1
            clear H1
            have H' := Aside0.mk H
            clear H
            have hcz18_0 : wc.cell? ⟨gb1079, 0, none⟩ = some (.int .i8 a0_0) := (blk_cell BK1079.out 0).trans rfl
            have hcz18_1 : wc.cell? ⟨gb1079, 1, none⟩ = some (.int .i8 a0_1) := (blk_cell BK1079.out 1).trans rfl
            have hcz18_2 : wc.cell? ⟨gb1079, 2, none⟩ = some (.int .i8 a0_2) := (blk_cell BK1079.out 2).trans rfl
            have hcz18_3 : wc.cell? ⟨gb1079, 3, none⟩ = some (.int .i8 a0_3) := (blk_cell BK1079.out 3).trans rfl
            have hcz18_4 : wc.cell? ⟨gb1079, 4, none⟩ = some (.int .i8 a0_4) := (blk_cell BK1079.out 4).trans rfl
            have hcz18_5 : wc.cell? ⟨gb1079, 5, none⟩ = some (.int .i8 a0_5) := (blk_cell BK1079.out 5).trans rfl
            have hcz18_6 : wc.cell? ⟨gb1079, 6, none⟩ = some (.int .i8 a0_6) := (blk_cell BK1079.out 6).trans rfl
            have hcz18_7 : wc.cell? ⟨gb1079, 7, none⟩ = some (.int .i8 a0_7) := (blk_cell BK1079.out 7).trans rfl
            have hcz18_8 : wc.cell? ⟨gb1079, 8, none⟩ = some (.int .i8 a0_8) := (blk_cell BK1079.out 8).trans rfl
            have hcz18_9 : wc.cell? ⟨gb1079, 9, none⟩ = some (.int .i8 a0_9) := (blk_cell BK1079.out 9).trans rfl
            have hcz18_10 : wc.cell? ⟨gb1079, 10, none⟩ = some (.int .i8 a0_10) := (blk_cell BK1079.out 10).trans rfl
            have hcz18_11 : wc.cell? ⟨gb1079, 11, none⟩ = some (.int .i8 a0_11) := (blk_cell BK1079.out 11).trans rfl
            have hcz18_12 : wc.cell? ⟨gb1079, 12, none⟩ = some (.int .i8 a0_12) := (blk_cell BK1079.out 12).trans rfl
            have hcz18_13 : wc.cell? ⟨gb1079, 13, none⟩ = some (.int .i8 a0_13) := (blk_cell BK1079.out 13).trans rfl
            have hcz18_14 : wc.cell? ⟨gb1079, 14, none⟩ = some (.int .i8 a0_14) := (blk_cell BK1079.out 14).trans rfl
            have hcz18_15 : wc.cell? ⟨gb1079, 15, none⟩ = some (.int .i8 a0_15) := (blk_cell BK1079.out 15).trans rfl
            have hcz18_16 : wc.cell? ⟨gb1079, 16, none⟩ = some (.int .i8 a0_16) := (blk_cell BK1079.out 16).trans rfl
            have hcz18_17 : wc.cell? ⟨gb1079, 17, none⟩ = some (.int .i8 a0_17) := (blk_cell BK1079.out 17).trans rfl
            have hcz18_18 : wc.cell? ⟨gb1079, 18, none⟩ = some (.int .i8 a0_18) := (blk_cell BK1079.out 18).trans rfl
            have hcz18_19 : wc.cell? ⟨gb1079, 19, none⟩ = some (.int .i8 a0_19) := (blk_cell BK1079.out 19).trans rfl
            have hcz18_20 : wc.cell? ⟨gb1079, 20, none⟩ = some (.int .i8 a0_20) := (blk_cell BK1079.out 20).trans rfl
            have hcz18_21 : wc.cell? ⟨gb1079, 21, none⟩ = some (.int .i8 a0_21) := (blk_cell BK1079.out 21).trans rfl
            have hcz18_22 : wc.cell? ⟨gb1079, 22, none⟩ = some (.int .i8 a0_22) := (blk_cell BK1079.out 22).trans rfl
            have hcz18_23 : wc.cell? ⟨gb1079, 23, none⟩ = some (.int .i8 a0_23) := (blk_cell BK1079.out 23).trans rfl
            have hcz18_24 : wc.cell? ⟨gb1079, 24, none⟩ = some (.int .i8 a0_24) := (blk_cell BK1079.out 24).trans rfl
            have hcz18_25 : wc.cell? ⟨gb1079, 25, none⟩ = some (.int .i8 a0_25) := (blk_cell BK1079.out 25).trans rfl
            have hcz18_26 : wc.cell? ⟨gb1079, 26, none⟩ = some (.int .i8 a0_26) := (blk_cell BK1079.out 26).trans rfl
            have hcz18_27 : wc.cell? ⟨gb1079, 27, none⟩ = some (.int .i8 a0_27) := (blk_cell BK1079.out 27).trans rfl
            have hcz18_28 : wc.cell? ⟨gb1079, 28, none⟩ = some (.slice A0_28 l0_28.length c0_28) := (blk_cell BK1079.out 28).trans rfl
            have hcz18_29 : wc.cell? ⟨gb1079, 29, none⟩ = some (.string a0_29) := (blk_cell BK1079.out 29).trans rfl
            have hcz18_30 : wc.cell? ⟨gb1079, 30, none⟩ = some (.string a0_30) := (blk_cell BK1079.out 30).trans rfl
            have hcz18_31 : wc.cell? ⟨gb1079, 31, none⟩ = some (.int .i64 a0_31) := (blk_cell BK1079.out 31).trans rfl
            have hfz18_0 := blk_frozen BK1079.out 0
            have hfz18_1 := blk_frozen BK1079.out 1
            have hfz18_2 := blk_frozen BK1079.out 2
            have hfz18_3 := blk_frozen BK1079.out 3
            have hfz18_4 := blk_frozen BK1079.out 4
            have hfz18_5 := blk_frozen BK1079.out 5
            have hfz18_6 := blk_frozen BK1079.out 6
            have hfz18_7 := blk_frozen BK1079.out 7
            have hfz18_8 := blk_frozen BK1079.out 8
            have hfz18_9 := blk_frozen BK1079.out 9
            have hfz18_10 := blk_frozen BK1079.out 10
            have hfz18_11 := blk_frozen BK1079.out 11
            have hfz18_12 := blk_frozen BK1079.out 12
            have hfz18_13 := blk_frozen BK1079.out 13
            have hfz18_14 := blk_frozen BK1079.out 14
            have hfz18_15 := blk_frozen BK1079.out 15
            have hfz18_16 := blk_frozen BK1079.out 16
            have hfz18_17 := blk_frozen BK1079.out 17
            have hfz18_18 := blk_frozen BK1079.out 18
            have hfz18_19 := blk_frozen BK1079.out 19
            have hfz18_20 := blk_frozen BK1079.out 20
            have hfz18_21 := blk_frozen BK1079.out 21
            have hfz18_22 := blk_frozen BK1079.out 22
            have hfz18_23 := blk_frozen BK1079.out 23
            have hfz18_24 := blk_frozen BK1079.out 24
            have hfz18_25 := blk_frozen BK1079.out 25
            have hfz18_26 := blk_frozen BK1079.out 26
            have hfz18_27 := blk_frozen BK1079.out 27
            have hfz18_28 := blk_frozen BK1079.out 28
            have hfz18_29 := blk_frozen BK1079.out 29
            have hfz18_30 := blk_frozen BK1079.out 30
            have hfz18_31 := blk_frozen BK1079.out 31
            go_wp2_with (first | ((with_reducible refine gate_callee (f := 85) rfl ?_); refine goesL_ (some 20) rfl rfl Tryd.func85 (by kernel_rfl) rfl #[.int .i64 a0_31, .int .i64 0, .int .i64 4000] rfl (by (try simp only [List.map_toArray, List.map_cons, List.map_nil]); first | done | rfl | (simp only [List.length_drop, List.length_take]; rfl)) ?_; (with_reducible refine (impl_within.calls a0_31 0 4000 false _ A14.out).mono ?_); rintro e w' ⟨rfl, ⟨nd, rfl⟩⟩; refine ⟨_, rfl, ?_⟩))
            go_meet
            case rel => exact ⟨_, (true), (by first | rfl | (simp; done) | (simp [*]; done)), H', ⟨by have := HJ3.out; first | omega | exact Nat.le_refl _⟩, ⟨by (with_reducible repeat (first | refine blk_drewN ?_ _ | refine blk_drew ?_ | refine blk_alloc ?_ _)); exact BK1079.out⟩, ⟨by repeat (first | (with_reducible first | exact HB.out | apply below_alloc | apply pw_below_drewN | apply below_drew1 | refine below_set ?_ GE1079.out) | exact HB.out)⟩⟩
        case rest =>
          clear HC13
          try clear c1
          try clear p2
          try clear c6
          try clear c7
          try clear c8
          try clear c9
          try clear c12
          try clear c15
          try clear hcz17_0
          try clear hcz17_1
          try clear hcz17_10
          try clear hcz17_11
          try clear hcz17_12
          try clear hcz17_13
          try clear hcz17_14
          try clear hcz17_15
          try clear hcz17_16
          try clear hcz17_17
          try clear hcz17_18
          try clear hcz17_19
          try clear hcz17_2
          try clear hcz17_20
          try clear hcz17_21
          try clear hcz17_22
          try clear hcz17_23
          try clear hcz17_24
          try clear hcz17_25
          try clear hcz17_26
          try clear hcz17_27
          try clear hcz17_28
          try clear hcz17_29
          try clear hcz17_3
          try clear hcz17_30
          try clear hcz17_31
          try clear hcz17_4
          try clear hcz17_5
          try clear hcz17_6
          try clear hcz17_7
          try clear hcz17_8
          try clear hcz17_9
          try clear hcz18_0
          try clear hcz18_1
          try clear hcz18_10
          try clear hcz18_11
          try clear hcz18_12
          try clear hcz18_13
          try clear hcz18_14
          try clear hcz18_15
          try clear hcz18_16
          try clear hcz18_17
          try clear hcz18_18
          try clear hcz18_19
          try clear hcz18_2
          try clear hcz18_20
          try clear hcz18_21
          try clear hcz18_22
          try clear hcz18_23
          try clear hcz18_24
          try clear hcz18_25
          try clear hcz18_26
          try clear hcz18_27
          try clear hcz18_28
          try clear hcz18_29
          try clear hcz18_3
          try clear hcz18_30
          try clear hcz18_31
          try clear hcz18_4
          try clear hcz18_5
          try clear hcz18_6
          try clear hcz18_7
          try clear hcz18_8
          try clear hcz18_9
          try clear hfz17_0
          try clear hfz17_1
          try clear hfz17_10
          try clear hfz17_11
          try clear hfz17_12
          try clear hfz17_13
          try clear hfz17_14
          try clear hfz17_15
          try clear hfz17_16
          try clear hfz17_17
          try clear hfz17_18
          try clear hfz17_19
          try clear hfz17_2
          try clear hfz17_20
          try clear hfz17_21
          try clear hfz17_22
          try clear hfz17_23
          try clear hfz17_24
          try clear hfz17_25
          try clear hfz17_26
          try clear hfz17_27
          try clear hfz17_28
          try clear hfz17_29
          try clear hfz17_3
          try clear hfz17_30
          try clear hfz17_31
          try clear hfz17_4
          try clear hfz17_5
          try clear hfz17_6
          try clear hfz17_7
          try clear hfz17_8
          try clear hfz17_9
          try clear hfz18_0
          try clear hfz18_1
          try clear hfz18_10
          try clear hfz18_11
          try clear hfz18_12
          try clear hfz18_13
          try clear hfz18_14
          try clear hfz18_15
          try clear hfz18_16
          try clear hfz18_17
          try clear hfz18_18
          try clear hfz18_19
          try clear hfz18_2
          try clear hfz18_20
          try clear hfz18_21
          try clear hfz18_22
          try clear hfz18_23
          try clear hfz18_24
          try clear hfz18_25
          try clear hfz18_26
          try clear hfz18_27
          try clear hfz18_28
          try clear hfz18_29
          try clear hfz18_3
          try clear hfz18_30
          try clear hfz18_31
          try clear hfz18_4
          try clear hfz18_5
          try clear hfz18_6
          try clear hfz18_7
          try clear hfz18_8
          try clear hfz18_9
          try clear p2
          obtain ⟨kq, x17_12, rfl, HA, HJ12, BK1079, HB⟩ := hcut
          cases kq with
          | zero => exact absurd HA.out (by simp [impl_gapCode.j1])
          | succ kj12 =>
            have H := HA.out
            clear HA
            simp only [impl_gapCode.j1] at H
            by_cases c19 : x17_12 = true
            · subst c19
              have H1 : (some 2) = some r := by rw [if_pos rfl] at H; exact H
              clear H
              have H := H1
              clear H1
              obtain rfl := Option.some.inj H
              go_wp2
              go_ret
              exact ⟨by first | rfl | (simp [errW_none, errW_some] <;> rfl) | (simp [*, errW_none, errW_some] <;> rfl), by repeat (first | (with_reducible first | exact HB.out | apply below_alloc | apply pw_below_drewN | apply below_drew1 | refine below_set ?_ GE1079.out) | exact HB.out)⟩
            · replace c19 := Bool.eq_false_iff.mpr c19
              subst c19
              have H1 : ((impl_isSpaced.f kj12 a0_29).bind fun t1084 => (if t1084 = true then ((impl_isSpaced.f kj12 a0_30).bind fun t1085 => ((impl_unless.f t1085 5).bind fun t1086 => (some t1086))) else ((impl_unless.f false 5).bind fun t1087 => (some t1087)))) = some r := by rw [if_neg (show ¬ (false = true) by decide)] at H; exact H
              clear H
              have H := H1
              clear H1
              replace H := Option.bind_eq_some_iff.mp H
              obtain ⟨t1084, A200, H⟩ := H
              replace H : (if t1084 = true then ((impl_isSpaced.f kj12 a0_30).bind fun t1085 => ((impl_unless.f t1085 5).bind fun t1086 => (some t1086))) else ((impl_unless.f false 5).bind fun t1087 => (some t1087))) = some r := H
              have A20 := Aside0.mk A200
              clear A200
              by_cases c21 : t1084 = true
              · subst c21
                have H1 : ((impl_isSpaced.f kj12 a0_30).bind fun t1085 => ((impl_unless.f t1085 5).bind fun t1086 => (some t1086))) = some r := by rw [if_pos rfl] at H; exact H
                clear H
                have H := H1
                clear H1
                replace H := Option.bind_eq_some_iff.mp H
                obtain ⟨t1085, A220, H⟩ := H
                replace H : ((impl_unless.f t1085 5).bind fun t1086 => (some t1086)) = some r := H
                have A22 := Aside0.mk A220
                clear A220
                replace H := Option.bind_eq_some_iff.mp H
                obtain ⟨t1086, A230, H⟩ := H
                replace H : (some t1086) = some r := H
                have A23 := Aside0.mk A230
                clear A230
                obtain rfl := Option.some.inj H
                have hcz24_0 : wc.cell? ⟨gb1079, 0, none⟩ = some (.int .i8 a0_0) := (blk_cell BK1079.out 0).trans rfl
                have hcz24_1 : wc.cell? ⟨gb1079, 1, none⟩ = some (.int .i8 a0_1) := (blk_cell BK1079.out 1).trans rfl
                have hcz24_2 : wc.cell? ⟨gb1079, 2, none⟩ = some (.int .i8 a0_2) := (blk_cell BK1079.out 2).trans rfl
                have hcz24_3 : wc.cell? ⟨gb1079, 3, none⟩ = some (.int .i8 a0_3) := (blk_cell BK1079.out 3).trans rfl
                have hcz24_4 : wc.cell? ⟨gb1079, 4, none⟩ = some (.int .i8 a0_4) := (blk_cell BK1079.out 4).trans rfl
                have hcz24_5 : wc.cell? ⟨gb1079, 5, none⟩ = some (.int .i8 a0_5) := (blk_cell BK1079.out 5).trans rfl
                have hcz24_6 : wc.cell? ⟨gb1079, 6, none⟩ = some (.int .i8 a0_6) := (blk_cell BK1079.out 6).trans rfl
                have hcz24_7 : wc.cell? ⟨gb1079, 7, none⟩ = some (.int .i8 a0_7) := (blk_cell BK1079.out 7).trans rfl
                have hcz24_8 : wc.cell? ⟨gb1079, 8, none⟩ = some (.int .i8 a0_8) := (blk_cell BK1079.out 8).trans rfl
                have hcz24_9 : wc.cell? ⟨gb1079, 9, none⟩ = some (.int .i8 a0_9) := (blk_cell BK1079.out 9).trans rfl
                have hcz24_10 : wc.cell? ⟨gb1079, 10, none⟩ = some (.int .i8 a0_10) := (blk_cell BK1079.out 10).trans rfl
                have hcz24_11 : wc.cell? ⟨gb1079, 11, none⟩ = some (.int .i8 a0_11) := (blk_cell BK1079.out 11).trans rfl
                have hcz24_12 : wc.cell? ⟨gb1079, 12, none⟩ = some (.int .i8 a0_12) := (blk_cell BK1079.out 12).trans rfl
                have hcz24_13 : wc.cell? ⟨gb1079, 13, none⟩ = some (.int .i8 a0_13) := (blk_cell BK1079.out 13).trans rfl
                have hcz24_14 : wc.cell? ⟨gb1079, 14, none⟩ = some (.int .i8 a0_14) := (blk_cell BK1079.out 14).trans rfl
                have hcz24_15 : wc.cell? ⟨gb1079, 15, none⟩ = some (.int .i8 a0_15) := (blk_cell BK1079.out 15).trans rfl
                have hcz24_16 : wc.cell? ⟨gb1079, 16, none⟩ = some (.int .i8 a0_16) := (blk_cell BK1079.out 16).trans rfl
                have hcz24_17 : wc.cell? ⟨gb1079, 17, none⟩ = some (.int .i8 a0_17) := (blk_cell BK1079.out 17).trans rfl
                have hcz24_18 : wc.cell? ⟨gb1079, 18, none⟩ = some (.int .i8 a0_18) := (blk_cell BK1079.out 18).trans rfl
                have hcz24_19 : wc.cell? ⟨gb1079, 19, none⟩ = some (.int .i8 a0_19) := (blk_cell BK1079.out 19).trans rfl
                have hcz24_20 : wc.cell? ⟨gb1079, 20, none⟩ = some (.int .i8 a0_20) := (blk_cell BK1079.out 20).trans rfl
                have hcz24_21 : wc.cell? ⟨gb1079, 21, none⟩ = some (.int .i8 a0_21) := (blk_cell BK1079.out 21).trans rfl
                have hcz24_22 : wc.cell? ⟨gb1079, 22, none⟩ = some (.int .i8 a0_22) := (blk_cell BK1079.out 22).trans rfl
                have hcz24_23 : wc.cell? ⟨gb1079, 23, none⟩ = some (.int .i8 a0_23) := (blk_cell BK1079.out 23).trans rfl
                have hcz24_24 : wc.cell? ⟨gb1079, 24, none⟩ = some (.int .i8 a0_24) := (blk_cell BK1079.out 24).trans rfl
                have hcz24_25 : wc.cell? ⟨gb1079, 25, none⟩ = some (.int .i8 a0_25) := (blk_cell BK1079.out 25).trans rfl
                have hcz24_26 : wc.cell? ⟨gb1079, 26, none⟩ = some (.int .i8 a0_26) := (blk_cell BK1079.out 26).trans rfl
                have hcz24_27 : wc.cell? ⟨gb1079, 27, none⟩ = some (.int .i8 a0_27) := (blk_cell BK1079.out 27).trans rfl
                have hcz24_28 : wc.cell? ⟨gb1079, 28, none⟩ = some (.slice A0_28 l0_28.length c0_28) := (blk_cell BK1079.out 28).trans rfl
                have hcz24_29 : wc.cell? ⟨gb1079, 29, none⟩ = some (.string a0_29) := (blk_cell BK1079.out 29).trans rfl
                have hcz24_30 : wc.cell? ⟨gb1079, 30, none⟩ = some (.string a0_30) := (blk_cell BK1079.out 30).trans rfl
                have hcz24_31 : wc.cell? ⟨gb1079, 31, none⟩ = some (.int .i64 a0_31) := (blk_cell BK1079.out 31).trans rfl
                have hfz24_0 := blk_frozen BK1079.out 0
                have hfz24_1 := blk_frozen BK1079.out 1
                have hfz24_2 := blk_frozen BK1079.out 2
                have hfz24_3 := blk_frozen BK1079.out 3
                have hfz24_4 := blk_frozen BK1079.out 4
                have hfz24_5 := blk_frozen BK1079.out 5
                have hfz24_6 := blk_frozen BK1079.out 6
                have hfz24_7 := blk_frozen BK1079.out 7
                have hfz24_8 := blk_frozen BK1079.out 8
                have hfz24_9 := blk_frozen BK1079.out 9
                have hfz24_10 := blk_frozen BK1079.out 10
                have hfz24_11 := blk_frozen BK1079.out 11
                have hfz24_12 := blk_frozen BK1079.out 12
                have hfz24_13 := blk_frozen BK1079.out 13
                have hfz24_14 := blk_frozen BK1079.out 14
                have hfz24_15 := blk_frozen BK1079.out 15
                have hfz24_16 := blk_frozen BK1079.out 16
                have hfz24_17 := blk_frozen BK1079.out 17
                have hfz24_18 := blk_frozen BK1079.out 18
                have hfz24_19 := blk_frozen BK1079.out 19
                have hfz24_20 := blk_frozen BK1079.out 20
                have hfz24_21 := blk_frozen BK1079.out 21
                have hfz24_22 := blk_frozen BK1079.out 22
                have hfz24_23 := blk_frozen BK1079.out 23
                have hfz24_24 := blk_frozen BK1079.out 24
                have hfz24_25 := blk_frozen BK1079.out 25
                have hfz24_26 := blk_frozen BK1079.out 26
                have hfz24_27 := blk_frozen BK1079.out 27
                have hfz24_28 := blk_frozen BK1079.out 28
                have hfz24_29 := blk_frozen BK1079.out 29
                have hfz24_30 := blk_frozen BK1079.out 30
                have hfz24_31 := blk_frozen BK1079.out 31
                go_wp2_with (first | ((with_reducible refine gate_callee (f := 135) rfl ?_); refine goesL_ (some 29) rfl rfl Tryd.func135 (by kernel_rfl) rfl #[.string a0_29] rfl (by (try simp only [List.map_toArray, List.map_cons, List.map_nil]); first | done | rfl | (simp only [List.length_drop, List.length_take]; rfl)) ?_; (with_reducible refine (impl_isSpaced.calls kj12 a0_29 true _ ?sideG A20.out).mono ?_); (case sideG => first | exact HG.out.below (by repeat (first | (with_reducible first | exact HB.out | apply below_alloc | apply pw_below_drewN | apply below_drew1) | exact HB.out)) | exact (HG.out.below (by repeat (first | (with_reducible first | exact HB.out | apply below_alloc | apply pw_below_drewN | apply below_drew1) | exact HB.out))).toM); rintro e w25 ⟨rfl, hb⟩; refine ⟨_, rfl, ?_⟩; have n0_ := Aside0.mk (blk_below (g := gb1079) (o := .cells #[.int .i8 a0_0, .int .i8 a0_1, .int .i8 a0_2, .int .i8 a0_3, .int .i8 a0_4, .int .i8 a0_5, .int .i8 a0_6, .int .i8 a0_7, .int .i8 a0_8, .int .i8 a0_9, .int .i8 a0_10, .int .i8 a0_11, .int .i8 a0_12, .int .i8 a0_13, .int .i8 a0_14, .int .i8 a0_15, .int .i8 a0_16, .int .i8 a0_17, .int .i8 a0_18, .int .i8 a0_19, .int .i8 a0_20, .int .i8 a0_21, .int .i8 a0_22, .int .i8 a0_23, .int .i8 a0_24, .int .i8 a0_25, .int .i8 a0_26, .int .i8 a0_27, .slice A0_28 l0_28.length c0_28, .string a0_29, .string a0_30, .int .i64 a0_31] 108 (0, 0)) (by (with_reducible repeat (first | refine blk_drewN ?_ _ | refine blk_drew ?_ | refine blk_alloc ?_ _)); exact BK1079.out) hb); have n1_ := Aside0.mk (below_step (by repeat (first | (with_reducible first | exact HB.out | apply below_alloc | apply pw_below_drewN | apply below_drew1 | refine below_set ?_ GE1079.out) | exact HB.out)) hb); clear BK1079; clear HB; have BK1079 := n0_; have HB := n1_; clear n0_ n1_; (try clear hb); (try clear hb2); (try clear hk); (try clear hi); have hcz26_0 : w25.cell? ⟨gb1079, 0, none⟩ = some (.int .i8 a0_0) := (blk_cell BK1079.out 0).trans rfl; have hcz26_1 : w25.cell? ⟨gb1079, 1, none⟩ = some (.int .i8 a0_1) := (blk_cell BK1079.out 1).trans rfl; have hcz26_2 : w25.cell? ⟨gb1079, 2, none⟩ = some (.int .i8 a0_2) := (blk_cell BK1079.out 2).trans rfl; have hcz26_3 : w25.cell? ⟨gb1079, 3, none⟩ = some (.int .i8 a0_3) := (blk_cell BK1079.out 3).trans rfl; have hcz26_4 : w25.cell? ⟨gb1079, 4, none⟩ = some (.int .i8 a0_4) := (blk_cell BK1079.out 4).trans rfl; have hcz26_5 : w25.cell? ⟨gb1079, 5, none⟩ = some (.int .i8 a0_5) := (blk_cell BK1079.out 5).trans rfl; have hcz26_6 : w25.cell? ⟨gb1079, 6, none⟩ = some (.int .i8 a0_6) := (blk_cell BK1079.out 6).trans rfl; have hcz26_7 : w25.cell? ⟨gb1079, 7, none⟩ = some (.int .i8 a0_7) := (blk_cell BK1079.out 7).trans rfl; have hcz26_8 : w25.cell? ⟨gb1079, 8, none⟩ = some (.int .i8 a0_8) := (blk_cell BK1079.out 8).trans rfl; have hcz26_9 : w25.cell? ⟨gb1079, 9, none⟩ = some (.int .i8 a0_9) := (blk_cell BK1079.out 9).trans rfl; have hcz26_10 : w25.cell? ⟨gb1079, 10, none⟩ = some (.int .i8 a0_10) := (blk_cell BK1079.out 10).trans rfl; have hcz26_11 : w25.cell? ⟨gb1079, 11, none⟩ = some (.int .i8 a0_11) := (blk_cell BK1079.out 11).trans rfl; have hcz26_12 : w25.cell? ⟨gb1079, 12, none⟩ = some (.int .i8 a0_12) := (blk_cell BK1079.out 12).trans rfl; have hcz26_13 : w25.cell? ⟨gb1079, 13, none⟩ = some (.int .i8 a0_13) := (blk_cell BK1079.out 13).trans rfl; have hcz26_14 : w25.cell? ⟨gb1079, 14, none⟩ = some (.int .i8 a0_14) := (blk_cell BK1079.out 14).trans rfl; have hcz26_15 : w25.cell? ⟨gb1079, 15, none⟩ = some (.int .i8 a0_15) := (blk_cell BK1079.out 15).trans rfl; have hcz26_16 : w25.cell? ⟨gb1079, 16, none⟩ = some (.int .i8 a0_16) := (blk_cell BK1079.out 16).trans rfl; have hcz26_17 : w25.cell? ⟨gb1079, 17, none⟩ = some (.int .i8 a0_17) := (blk_cell BK1079.out 17).trans rfl; have hcz26_18 : w25.cell? ⟨gb1079, 18, none⟩ = some (.int .i8 a0_18) := (blk_cell BK1079.out 18).trans rfl; have hcz26_19 : w25.cell? ⟨gb1079, 19, none⟩ = some (.int .i8 a0_19) := (blk_cell BK1079.out 19).trans rfl; have hcz26_20 : w25.cell? ⟨gb1079, 20, none⟩ = some (.int .i8 a0_20) := (blk_cell BK1079.out 20).trans rfl; have hcz26_21 : w25.cell? ⟨gb1079, 21, none⟩ = some (.int .i8 a0_21) := (blk_cell BK1079.out 21).trans rfl; have hcz26_22 : w25.cell? ⟨gb1079, 22, none⟩ = some (.int .i8 a0_22) := (blk_cell BK1079.out 22).trans rfl; have hcz26_23 : w25.cell? ⟨gb1079, 23, none⟩ = some (.int .i8 a0_23) := (blk_cell BK1079.out 23).trans rfl; have hcz26_24 : w25.cell? ⟨gb1079, 24, none⟩ = some (.int .i8 a0_24) := (blk_cell BK1079.out 24).trans rfl; have hcz26_25 : w25.cell? ⟨gb1079, 25, none⟩ = some (.int .i8 a0_25) := (blk_cell BK1079.out 25).trans rfl; have hcz26_26 : w25.cell? ⟨gb1079, 26, none⟩ = some (.int .i8 a0_26) := (blk_cell BK1079.out 26).trans rfl; have hcz26_27 : w25.cell? ⟨gb1079, 27, none⟩ = some (.int .i8 a0_27) := (blk_cell BK1079.out 27).trans rfl; have hcz26_28 : w25.cell? ⟨gb1079, 28, none⟩ = some (.slice A0_28 l0_28.length c0_28) := (blk_cell BK1079.out 28).trans rfl; have hcz26_29 : w25.cell? ⟨gb1079, 29, none⟩ = some (.string a0_29) := (blk_cell BK1079.out 29).trans rfl; have hcz26_30 : w25.cell? ⟨gb1079, 30, none⟩ = some (.string a0_30) := (blk_cell BK1079.out 30).trans rfl; have hcz26_31 : w25.cell? ⟨gb1079, 31, none⟩ = some (.int .i64 a0_31) := (blk_cell BK1079.out 31).trans rfl; have hfz26_0 := blk_frozen BK1079.out 0; have hfz26_1 := blk_frozen BK1079.out 1; have hfz26_2 := blk_frozen BK1079.out 2; have hfz26_3 := blk_frozen BK1079.out 3; have hfz26_4 := blk_frozen BK1079.out 4; have hfz26_5 := blk_frozen BK1079.out 5; have hfz26_6 := blk_frozen BK1079.out 6; have hfz26_7 := blk_frozen BK1079.out 7; have hfz26_8 := blk_frozen BK1079.out 8; have hfz26_9 := blk_frozen BK1079.out 9; have hfz26_10 := blk_frozen BK1079.out 10; have hfz26_11 := blk_frozen BK1079.out 11; have hfz26_12 := blk_frozen BK1079.out 12; have hfz26_13 := blk_frozen BK1079.out 13; have hfz26_14 := blk_frozen BK1079.out 14; have hfz26_15 := blk_frozen BK1079.out 15; have hfz26_16 := blk_frozen BK1079.out 16; have hfz26_17 := blk_frozen BK1079.out 17; have hfz26_18 := blk_frozen BK1079.out 18; have hfz26_19 := blk_frozen BK1079.out 19; have hfz26_20 := blk_frozen BK1079.out 20; have hfz26_21 := blk_frozen BK1079.out 21; have hfz26_22 := blk_frozen BK1079.out 22; have hfz26_23 := blk_frozen BK1079.out 23; have hfz26_24 := blk_frozen BK1079.out 24; have hfz26_25 := blk_frozen BK1079.out 25; have hfz26_26 := blk_frozen BK1079.out 26; have hfz26_27 := blk_frozen BK1079.out 27; have hfz26_28 := blk_frozen BK1079.out 28; have hfz26_29 := blk_frozen BK1079.out 29; have hfz26_30 := blk_frozen BK1079.out 30; have hfz26_31 := blk_frozen BK1079.out 31) | (go_at_call 135; (with_reducible refine (impl_isSpaced.calls kj12 a0_30 t1085 _ ?sideG A22.out).mono ?_); (case sideG => first | exact HG.out.below (by repeat (first | (with_reducible first | exact HB.out | apply below_alloc | apply pw_below_drewN | apply below_drew1) | exact HB.out)) | exact (HG.out.below (by repeat (first | (with_reducible first | exact HB.out | apply below_alloc | apply pw_below_drewN | apply below_drew1) | exact HB.out))).toM); rintro e w27 ⟨rfl, hb⟩; have n0_ := Aside0.mk (blk_below (g := gb1079) (o := .cells #[.int .i8 a0_0, .int .i8 a0_1, .int .i8 a0_2, .int .i8 a0_3, .int .i8 a0_4, .int .i8 a0_5, .int .i8 a0_6, .int .i8 a0_7, .int .i8 a0_8, .int .i8 a0_9, .int .i8 a0_10, .int .i8 a0_11, .int .i8 a0_12, .int .i8 a0_13, .int .i8 a0_14, .int .i8 a0_15, .int .i8 a0_16, .int .i8 a0_17, .int .i8 a0_18, .int .i8 a0_19, .int .i8 a0_20, .int .i8 a0_21, .int .i8 a0_22, .int .i8 a0_23, .int .i8 a0_24, .int .i8 a0_25, .int .i8 a0_26, .int .i8 a0_27, .slice A0_28 l0_28.length c0_28, .string a0_29, .string a0_30, .int .i64 a0_31] 108 (0, 0)) (by (with_reducible repeat (first | refine blk_drewN ?_ _ | refine blk_drew ?_ | refine blk_alloc ?_ _)); exact BK1079.out) hb); have n1_ := Aside0.mk (below_step (by repeat (first | (with_reducible first | exact HB.out | apply below_alloc | apply pw_below_drewN | apply below_drew1 | refine below_set ?_ GE1079.out) | exact HB.out)) hb); clear BK1079; clear HB; have BK1079 := n0_; have HB := n1_; clear n0_ n1_; (try clear hb); (try clear hb2); (try clear hk); (try clear hi)) | ((with_reducible refine gate_callee (f := 125) rfl ?_); refine goesL_ (some 35) rfl rfl Tryd.func125 (by kernel_rfl) rfl #[.bool t1085, .int .i64 5] rfl (by (try simp only [List.map_toArray, List.map_cons, List.map_nil]); first | done | rfl | (simp only [List.length_drop, List.length_take]; rfl)) ?_; (with_reducible refine (impl_unless.calls t1085 5 t1086 _ A23.out).mono ?_); rintro e w' ⟨rfl, ⟨nd, rfl⟩⟩; refine ⟨_, rfl, ?_⟩))
                go_ret
                exact ⟨by first | rfl | (simp [errW_none, errW_some] <;> rfl) | (simp [*, errW_none, errW_some] <;> rfl), by repeat (first | (with_reducible first | exact HB.out | apply below_alloc | apply pw_below_drewN | apply below_drew1 | refine below_set ?_ GE1079.out) | exact HB.out)⟩
              · replace c21 := Bool.eq_false_iff.mpr c21
                subst c21
                have H1 : ((impl_unless.f false 5).bind fun t1087 => (some t1087)) = some r := by rw [if_neg (show ¬ (false = true) by decide)] at H; exact H
                clear H
                have H := H1
                clear H1
                replace H := Option.bind_eq_some_iff.mp H
                obtain ⟨t1087, A280, H⟩ := H
                replace H : (some t1087) = some r := H
                have A28 := Aside0.mk A280
                clear A280
                obtain rfl := Option.some.inj H
                have hcz29_0 : wc.cell? ⟨gb1079, 0, none⟩ = some (.int .i8 a0_0) := (blk_cell BK1079.out 0).trans rfl
                have hcz29_1 : wc.cell? ⟨gb1079, 1, none⟩ = some (.int .i8 a0_1) := (blk_cell BK1079.out 1).trans rfl
                have hcz29_2 : wc.cell? ⟨gb1079, 2, none⟩ = some (.int .i8 a0_2) := (blk_cell BK1079.out 2).trans rfl
                have hcz29_3 : wc.cell? ⟨gb1079, 3, none⟩ = some (.int .i8 a0_3) := (blk_cell BK1079.out 3).trans rfl
                have hcz29_4 : wc.cell? ⟨gb1079, 4, none⟩ = some (.int .i8 a0_4) := (blk_cell BK1079.out 4).trans rfl
                have hcz29_5 : wc.cell? ⟨gb1079, 5, none⟩ = some (.int .i8 a0_5) := (blk_cell BK1079.out 5).trans rfl
                have hcz29_6 : wc.cell? ⟨gb1079, 6, none⟩ = some (.int .i8 a0_6) := (blk_cell BK1079.out 6).trans rfl
                have hcz29_7 : wc.cell? ⟨gb1079, 7, none⟩ = some (.int .i8 a0_7) := (blk_cell BK1079.out 7).trans rfl
                have hcz29_8 : wc.cell? ⟨gb1079, 8, none⟩ = some (.int .i8 a0_8) := (blk_cell BK1079.out 8).trans rfl
                have hcz29_9 : wc.cell? ⟨gb1079, 9, none⟩ = some (.int .i8 a0_9) := (blk_cell BK1079.out 9).trans rfl
                have hcz29_10 : wc.cell? ⟨gb1079, 10, none⟩ = some (.int .i8 a0_10) := (blk_cell BK1079.out 10).trans rfl
                have hcz29_11 : wc.cell? ⟨gb1079, 11, none⟩ = some (.int .i8 a0_11) := (blk_cell BK1079.out 11).trans rfl
                have hcz29_12 : wc.cell? ⟨gb1079, 12, none⟩ = some (.int .i8 a0_12) := (blk_cell BK1079.out 12).trans rfl
                have hcz29_13 : wc.cell? ⟨gb1079, 13, none⟩ = some (.int .i8 a0_13) := (blk_cell BK1079.out 13).trans rfl
                have hcz29_14 : wc.cell? ⟨gb1079, 14, none⟩ = some (.int .i8 a0_14) := (blk_cell BK1079.out 14).trans rfl
                have hcz29_15 : wc.cell? ⟨gb1079, 15, none⟩ = some (.int .i8 a0_15) := (blk_cell BK1079.out 15).trans rfl
                have hcz29_16 : wc.cell? ⟨gb1079, 16, none⟩ = some (.int .i8 a0_16) := (blk_cell BK1079.out 16).trans rfl
                have hcz29_17 : wc.cell? ⟨gb1079, 17, none⟩ = some (.int .i8 a0_17) := (blk_cell BK1079.out 17).trans rfl
                have hcz29_18 : wc.cell? ⟨gb1079, 18, none⟩ = some (.int .i8 a0_18) := (blk_cell BK1079.out 18).trans rfl
                have hcz29_19 : wc.cell? ⟨gb1079, 19, none⟩ = some (.int .i8 a0_19) := (blk_cell BK1079.out 19).trans rfl
                have hcz29_20 : wc.cell? ⟨gb1079, 20, none⟩ = some (.int .i8 a0_20) := (blk_cell BK1079.out 20).trans rfl
                have hcz29_21 : wc.cell? ⟨gb1079, 21, none⟩ = some (.int .i8 a0_21) := (blk_cell BK1079.out 21).trans rfl
                have hcz29_22 : wc.cell? ⟨gb1079, 22, none⟩ = some (.int .i8 a0_22) := (blk_cell BK1079.out 22).trans rfl
                have hcz29_23 : wc.cell? ⟨gb1079, 23, none⟩ = some (.int .i8 a0_23) := (blk_cell BK1079.out 23).trans rfl
                have hcz29_24 : wc.cell? ⟨gb1079, 24, none⟩ = some (.int .i8 a0_24) := (blk_cell BK1079.out 24).trans rfl
                have hcz29_25 : wc.cell? ⟨gb1079, 25, none⟩ = some (.int .i8 a0_25) := (blk_cell BK1079.out 25).trans rfl
                have hcz29_26 : wc.cell? ⟨gb1079, 26, none⟩ = some (.int .i8 a0_26) := (blk_cell BK1079.out 26).trans rfl
                have hcz29_27 : wc.cell? ⟨gb1079, 27, none⟩ = some (.int .i8 a0_27) := (blk_cell BK1079.out 27).trans rfl
                have hcz29_28 : wc.cell? ⟨gb1079, 28, none⟩ = some (.slice A0_28 l0_28.length c0_28) := (blk_cell BK1079.out 28).trans rfl
                have hcz29_29 : wc.cell? ⟨gb1079, 29, none⟩ = some (.string a0_29) := (blk_cell BK1079.out 29).trans rfl
                have hcz29_30 : wc.cell? ⟨gb1079, 30, none⟩ = some (.string a0_30) := (blk_cell BK1079.out 30).trans rfl
                have hcz29_31 : wc.cell? ⟨gb1079, 31, none⟩ = some (.int .i64 a0_31) := (blk_cell BK1079.out 31).trans rfl
                have hfz29_0 := blk_frozen BK1079.out 0
                have hfz29_1 := blk_frozen BK1079.out 1
                have hfz29_2 := blk_frozen BK1079.out 2
                have hfz29_3 := blk_frozen BK1079.out 3
                have hfz29_4 := blk_frozen BK1079.out 4
                have hfz29_5 := blk_frozen BK1079.out 5
                have hfz29_6 := blk_frozen BK1079.out 6
                have hfz29_7 := blk_frozen BK1079.out 7
                have hfz29_8 := blk_frozen BK1079.out 8
                have hfz29_9 := blk_frozen BK1079.out 9
                have hfz29_10 := blk_frozen BK1079.out 10
                have hfz29_11 := blk_frozen BK1079.out 11
                have hfz29_12 := blk_frozen BK1079.out 12
                have hfz29_13 := blk_frozen BK1079.out 13
                have hfz29_14 := blk_frozen BK1079.out 14
                have hfz29_15 := blk_frozen BK1079.out 15
                have hfz29_16 := blk_frozen BK1079.out 16
                have hfz29_17 := blk_frozen BK1079.out 17
                have hfz29_18 := blk_frozen BK1079.out 18
                have hfz29_19 := blk_frozen BK1079.out 19
                have hfz29_20 := blk_frozen BK1079.out 20
                have hfz29_21 := blk_frozen BK1079.out 21
                have hfz29_22 := blk_frozen BK1079.out 22
                have hfz29_23 := blk_frozen BK1079.out 23
                have hfz29_24 := blk_frozen BK1079.out 24
                have hfz29_25 := blk_frozen BK1079.out 25
                have hfz29_26 := blk_frozen BK1079.out 26
                have hfz29_27 := blk_frozen BK1079.out 27
                have hfz29_28 := blk_frozen BK1079.out 28
                have hfz29_29 := blk_frozen BK1079.out 29
                have hfz29_30 := blk_frozen BK1079.out 30
                have hfz29_31 := blk_frozen BK1079.out 31
                go_wp2_with (first | ((with_reducible refine gate_callee (f := 135) rfl ?_); refine goesL_ (some 29) rfl rfl Tryd.func135 (by kernel_rfl) rfl #[.string a0_29] rfl (by (try simp only [List.map_toArray, List.map_cons, List.map_nil]); first | done | rfl | (simp only [List.length_drop, List.length_take]; rfl)) ?_; (with_reducible refine (impl_isSpaced.calls kj12 a0_29 false _ ?sideG A20.out).mono ?_); (case sideG => first | exact HG.out.below (by repeat (first | (with_reducible first | exact HB.out | apply below_alloc | apply pw_below_drewN | apply below_drew1) | exact HB.out)) | exact (HG.out.below (by repeat (first | (with_reducible first | exact HB.out | apply below_alloc | apply pw_below_drewN | apply below_drew1) | exact HB.out))).toM); rintro e w30 ⟨rfl, hb⟩; refine ⟨_, rfl, ?_⟩; have n0_ := Aside0.mk (blk_below (g := gb1079) (o := .cells #[.int .i8 a0_0, .int .i8 a0_1, .int .i8 a0_2, .int .i8 a0_3, .int .i8 a0_4, .int .i8 a0_5, .int .i8 a0_6, .int .i8 a0_7, .int .i8 a0_8, .int .i8 a0_9, .int .i8 a0_10, .int .i8 a0_11, .int .i8 a0_12, .int .i8 a0_13, .int .i8 a0_14, .int .i8 a0_15, .int .i8 a0_16, .int .i8 a0_17, .int .i8 a0_18, .int .i8 a0_19, .int .i8 a0_20, .int .i8 a0_21, .int .i8 a0_22, .int .i8 a0_23, .int .i8 a0_24, .int .i8 a0_25, .int .i8 a0_26, .int .i8 a0_27, .slice A0_28 l0_28.length c0_28, .string a0_29, .string a0_30, .int .i64 a0_31] 108 (0, 0)) (by (with_reducible repeat (first | refine blk_drewN ?_ _ | refine blk_drew ?_ | refine blk_alloc ?_ _)); exact BK1079.out) hb); have n1_ := Aside0.mk (below_step (by repeat (first | (with_reducible first | exact HB.out | apply below_alloc | apply pw_below_drewN | apply below_drew1 | refine below_set ?_ GE1079.out) | exact HB.out)) hb); clear BK1079; clear HB; have BK1079 := n0_; have HB := n1_; clear n0_ n1_; (try clear hb); (try clear hb2); (try clear hk); (try clear hi)) | ((with_reducible refine gate_callee (f := 125) rfl ?_); refine goesL_ (some 35) rfl rfl Tryd.func125 (by kernel_rfl) rfl #[.bool false, .int .i64 5] rfl (by (try simp only [List.map_toArray, List.map_cons, List.map_nil]); first | done | rfl | (simp only [List.length_drop, List.length_take]; rfl)) ?_; (with_reducible refine (impl_unless.calls false 5 t1087 _ A28.out).mono ?_); rintro e w' ⟨rfl, ⟨nd, rfl⟩⟩; refine ⟨_, rfl, ?_⟩))
                go_ret
                exact ⟨by first | rfl | (simp [errW_none, errW_some] <;> rfl) | (simp [*, errW_none, errW_some] <;> rfl), by repeat (first | (with_reducible first | exact HB.out | apply below_alloc | apply pw_below_drewN | apply below_drew1 | refine below_set ?_ GE1079.out) | exact HB.out)⟩
end Go.Proofs.YticjkfacdmmopaaDoor.Q
namespace Go.Proofs.YticjkfacdmmopaaDoor.Ext
end Go.Proofs.YticjkfacdmmopaaDoor.Ext
namespace Go.Proofs.YticjkfacdmmopaaDoor.Q
open Go.Proofs.YticjkfacdmmopaaDoor.Ext
open Go.RowKit Go.Proofs.YticjkfacdmmopaaDoorW.PrintWords Go.Proofs.YticjkfacdmmopaaDoorW.PrintLast Go.Proofs.YticjkfacdmmopaaDoorW.PrintMore
attribute [local go_sem] max2_int min2_int max_two min_two max_three min_three max_four min_four
set_option linter.unusedVariables false
set_option linter.unusedSimpArgs false
def impl_gapLine_differs.f (k : Nat) (a0_0 a0_1 a0_2 a0_3 a0_4 a0_5 a0_6 a0_7 a0_8 a0_9 a0_10 a0_11 a0_12 a0_13 a0_14 a0_15 a0_16 a0_17 a0_18 a0_19 a0_20 a0_21 a0_22 a0_23 a0_24 a0_25 a0_26 a0_27 : Int) (l0_28 : List (S137)) (a0_29 : ByteArray) (a0_30 : ByteArray) (a0_31 : Int) (a1 : ByteArray) : Option (Int × Bool) := if a0_29.size + a1.size ≤ 9223372036854775807 then (if (a0_29 ++ a1).size + a0_30.size ≤ 9223372036854775807 then ((impl_ValidText.f k ((a0_29 ++ a1) ++ a0_30)).bind fun t1089 => (if t1089 = true then ((impl_Face_wide.f k a0_0 a0_1 a0_2 a0_3 a0_4 a0_5 a0_6 a0_7 a0_8 a0_9 a0_10 a0_11 a0_12 a0_13 a0_14 a0_15 a0_16 a0_17 a0_18 a0_19 a0_20 a0_21 a0_22 a0_23 a0_24 a0_25 a0_26 a0_27 l0_28 ((a0_29 ++ a1) ++ a0_30)).bind fun t1090 => (some (mx (wrap64 (t1090 - a0_31)) (wrap64 (-(wrap64 (t1090 - a0_31)))), true))) else (some (0, false)))) else (none)) else (none)
theorem impl_gapLine_differs.mono : ∀ a0 a1 a2 a3 a4 a5 a6 a7 a8 a9 a10 a11 a12 a13 a14 a15 a16 a17 a18 a19 a20 a21 a22 a23 a24 a25 a26 a27 a28 a29 a30 a31 a32 k, LeO (impl_gapLine_differs.f k a0 a1 a2 a3 a4 a5 a6 a7 a8 a9 a10 a11 a12 a13 a14 a15 a16 a17 a18 a19 a20 a21 a22 a23 a24 a25 a26 a27 a28 a29 a30 a31 a32) (impl_gapLine_differs.f (k + 1) a0 a1 a2 a3 a4 a5 a6 a7 a8 a9 a10 a11 a12 a13 a14 a15 a16 a17 a18 a19 a20 a21 a22 a23 a24 a25 a26 a27 a28 a29 a30 a31 a32) := by
  intro a0 a1 a2 a3 a4 a5 a6 a7 a8 a9 a10 a11 a12 a13 a14 a15 a16 a17 a18 a19 a20 a21 a22 a23 a24 a25 a26 a27 a28 a29 a30 a31 a32 k
  unfold impl_gapLine_differs.f
  repeat' first
      | (with_reducible exact impl_Face_wide.mono _ _ _ _ _ _ _ _ _ _ _ _ _ _ _ _ _ _ _ _ _ _ _ _ _ _ _ _ _ _ _)
      | (with_reducible exact impl_ValidText.mono _ _)
      | (with_reducible exact LeO.refl _)
      | (with_reducible exact LeO.none _)
      | (with_reducible refine LeO.ite ?_ ?_)
      | (with_reducible refine LeO.bind ?_ (fun _ => ?_))
      | exact impl_Face_wide.mono _ _ _ _ _ _ _ _ _ _ _ _ _ _ _ _ _ _ _ _ _ _ _ _ _ _ _ _ _ _ _
      | exact impl_ValidText.mono _ _
      | exact LeO.none _
      | refine LeO.ite ?_ ?_
      | refine LeO.bind ?_ (fun _ => ?_)
def impl_gapLine_differs.T4 : Bool × List (List Nat × List Nat) := (true, [([], []), ([0], [0]), ([], []), ([1, 2], [1, 2]), ([], []), ([4], [4]), ([3, 5], [3, 5]), ([6, 3, 0, 1, 2, 3, 4, 5, 6], [6])])
def impl_gapLine_differs.B4 : List Nat := [0, 1, 0, 7, 0, 16, 63, 127]
theorem impl_gapLine_differs.tab4 : rtab .any (opsOf Tryd.f92 4) = impl_gapLine_differs.T4 := by kernel_rfl
theorem impl_gapLine_differs.bits4 : waitsOk impl_gapLine_differs.T4.2 impl_gapLine_differs.B4 = true := by kernel_rfl
set_option maxHeartbeats 8000000 in
set_option maxRecDepth 100000 in
theorem impl_gapLine_differs.calls (k : Nat) (a0_0 a0_1 a0_2 a0_3 a0_4 a0_5 a0_6 a0_7 a0_8 a0_9 a0_10 a0_11 a0_12 a0_13 a0_14 a0_15 a0_16 a0_17 a0_18 a0_19 a0_20 a0_21 a0_22 a0_23 a0_24 a0_25 a0_26 a0_27 : Int) (A0_28 : Option Addr) (c0_28 : Nat) (l0_28 : List (S137)) (a0_29 : ByteArray) (a0_30 : ByteArray) (a0_31 : Int) (a1 : ByteArray) (r1 : Int) (r2 : Bool) (w : World) (hr0_28 : Kd.C k137 w A0_28 l0_28.length l0_28) (hc0_28 : l0_28.length ≤ c0_28) (hG : GlobM w) (h : impl_gapLine_differs.f k a0_0 a0_1 a0_2 a0_3 a0_4 a0_5 a0_6 a0_7 a0_8 a0_9 a0_10 a0_11 a0_12 a0_13 a0_14 a0_15 a0_16 a0_17 a0_18 a0_19 a0_20 a0_21 a0_22 a0_23 a0_24 a0_25 a0_26 a0_27 l0_28 a0_29 a0_30 a0_31 a1 = some (r1, r2)) :
    Calls Tryd.prog 92 #[.agg #[.int .i8 a0_0, .int .i8 a0_1, .int .i8 a0_2, .int .i8 a0_3, .int .i8 a0_4, .int .i8 a0_5, .int .i8 a0_6, .int .i8 a0_7, .int .i8 a0_8, .int .i8 a0_9, .int .i8 a0_10, .int .i8 a0_11, .int .i8 a0_12, .int .i8 a0_13, .int .i8 a0_14, .int .i8 a0_15, .int .i8 a0_16, .int .i8 a0_17, .int .i8 a0_18, .int .i8 a0_19, .int .i8 a0_20, .int .i8 a0_21, .int .i8 a0_22, .int .i8 a0_23, .int .i8 a0_24, .int .i8 a0_25, .int .i8 a0_26, .int .i8 a0_27, .slice A0_28 l0_28.length c0_28, .string a0_29, .string a0_30, .int .i64 a0_31], .string a1] w fun e w' => e = .returned (.tuple #[.int .i64 r1, .bool r2]) ∧ Below w.heap.size w w' := by
  have HG := Aside0.mk hG
  clear hG
  have hu108 := Tryd.underlying108
  have hu32 := Tryd.underlying32
  have HR0_28 := Aside0.mk hr0_28
  have HC0_28 := Aside0.mk hc0_28
  clear hr0_28 hc0_28
  have HB := Aside0.mk (Below.refl w.heap.size w)
  have H : (if a0_29.size + a1.size ≤ 9223372036854775807 then (if (a0_29 ++ a1).size + a0_30.size ≤ 9223372036854775807 then ((impl_ValidText.f k ((a0_29 ++ a1) ++ a0_30)).bind fun t1089 => (if t1089 = true then ((impl_Face_wide.f k a0_0 a0_1 a0_2 a0_3 a0_4 a0_5 a0_6 a0_7 a0_8 a0_9 a0_10 a0_11 a0_12 a0_13 a0_14 a0_15 a0_16 a0_17 a0_18 a0_19 a0_20 a0_21 a0_22 a0_23 a0_24 a0_25 a0_26 a0_27 l0_28 ((a0_29 ++ a1) ++ a0_30)).bind fun t1090 => (some (mx (wrap64 (t1090 - a0_31)) (wrap64 (-(wrap64 (t1090 - a0_31)))), true))) else (some (0, false)))) else (none)) else (none)) = some (r1, r2) := h
  clear h
  by_cases c3 : a0_29.size + a1.size ≤ 9223372036854775807
  · rw [if_pos c3] at H
    have c3b0 := eq_true c3
    have c3b1 : decide (a0_29.size + a1.size ≤ 9223372036854775807) = true := decide_eq_true c3
    try have c3b2 : (9223372036854775807 < a0_29.size + a1.size) = False := eq_false (Nat.not_lt.2 c3)
    by_cases c4 : (a0_29 ++ a1).size + a0_30.size ≤ 9223372036854775807
    · rw [if_pos c4] at H
      have c4b0 := eq_true c4
      have c4b1 : decide ((a0_29 ++ a1).size + a0_30.size ≤ 9223372036854775807) = true := decide_eq_true c4
      try have c4b2 : (9223372036854775807 < (a0_29 ++ a1).size + a0_30.size) = False := eq_false (Nat.not_lt.2 c4)
      replace H := Option.bind_eq_some_iff.mp H
      obtain ⟨t1089, A50, H⟩ := H
      replace H : (if t1089 = true then ((impl_Face_wide.f k a0_0 a0_1 a0_2 a0_3 a0_4 a0_5 a0_6 a0_7 a0_8 a0_9 a0_10 a0_11 a0_12 a0_13 a0_14 a0_15 a0_16 a0_17 a0_18 a0_19 a0_20 a0_21 a0_22 a0_23 a0_24 a0_25 a0_26 a0_27 l0_28 ((a0_29 ++ a1) ++ a0_30)).bind fun t1090 => (some (mx (wrap64 (t1090 - a0_31)) (wrap64 (-(wrap64 (t1090 - a0_31)))), true))) else (some (0, false))) = some (r1, r2) := H
      have A5 := Aside0.mk A50
      clear A50
      by_cases c6 : t1089 = true
      · subst c6
        have H1 : ((impl_Face_wide.f k a0_0 a0_1 a0_2 a0_3 a0_4 a0_5 a0_6 a0_7 a0_8 a0_9 a0_10 a0_11 a0_12 a0_13 a0_14 a0_15 a0_16 a0_17 a0_18 a0_19 a0_20 a0_21 a0_22 a0_23 a0_24 a0_25 a0_26 a0_27 l0_28 ((a0_29 ++ a1) ++ a0_30)).bind fun t1090 => (some (mx (wrap64 (t1090 - a0_31)) (wrap64 (-(wrap64 (t1090 - a0_31)))), true))) = some (r1, r2) := by rw [if_pos rfl] at H; exact H
        clear H
        have H := H1
        clear H1
        replace H := Option.bind_eq_some_iff.mp H
        obtain ⟨t1090, A70, H⟩ := H
        replace H : (some (mx (wrap64 (t1090 - a0_31)) (wrap64 (-(wrap64 (t1090 - a0_31)))), true)) = some (r1, r2) := H
        have A7 := Aside0.mk A70
        clear A70
        obtain ⟨ji8, hji8⟩ : ∃ j_ : Int, (mx (wrap64 (t1090 - a0_31)) (wrap64 (-(wrap64 (t1090 - a0_31))))) = j_ := ⟨_, rfl⟩
        replace H : (some (ji8, true)) = some (r1, r2) := by first | (rw [hji8] at H; exact H) | (simp only [hji8] at H ⊢; exact H)
        (try rw [hji8] at A5)
        (try rw [hji8] at A7)
        have hji8_ : (if (wrap64 (t1090 - a0_31)) < (wrap64 (-(wrap64 (t1090 - a0_31)))) then (wrap64 (-(wrap64 (t1090 - a0_31)))) else (wrap64 (t1090 - a0_31))) = ji8 := hji8
        simp only [Option.some.injEq, Prod.mk.injEq] at H
        obtain ⟨rfl, rfl⟩ := H
        go_enter Tryd.func92, Tryd.ntmps92
        try go_wp2_with (first | ((with_reducible refine gate_dst (N := 2) rfl ?_); refine box_event ?hg (N := 2) ?hd (cs := #[.int .i8 a0_0, .int .i8 a0_1, .int .i8 a0_2, .int .i8 a0_3, .int .i8 a0_4, .int .i8 a0_5, .int .i8 a0_6, .int .i8 a0_7, .int .i8 a0_8, .int .i8 a0_9, .int .i8 a0_10, .int .i8 a0_11, .int .i8 a0_12, .int .i8 a0_13, .int .i8 a0_14, .int .i8 a0_15, .int .i8 a0_16, .int .i8 a0_17, .int .i8 a0_18, .int .i8 a0_19, .int .i8 a0_20, .int .i8 a0_21, .int .i8 a0_22, .int .i8 a0_23, .int .i8 a0_24, .int .i8 a0_25, .int .i8 a0_26, .int .i8 a0_27, .slice A0_28 l0_28.length c0_28, .string a0_29, .string a0_30, .int .i64 a0_31]) (t := 108) ?hr ?_; (case hd => rfl); (case hg => rfl); (case hr => first | (go_simp; done) | (go_simp; rfl)); intro gb1088 hg w9 hbox hb; have n0_ := Aside0.mk (below_step (by repeat (first | (with_reducible first | exact HB.out | apply below_alloc | apply pw_below_drewN | apply below_drew1) | exact HB.out)) hb); have n1_ := Aside0.mk (hbox); have n2_ := Aside0.mk ((by rw [hg]; exact (below_size (by repeat (first | (with_reducible first | exact HB.out | apply below_alloc | apply pw_below_drewN | apply below_drew1) | exact HB.out))) : w.heap.size ≤ gb1088)); have n3_ := Aside0.mk ((by rw [hg]; exact (below_size (by repeat (first | (with_reducible first | exact HB.out | apply below_alloc | apply pw_below_drewN | apply below_drew1) | exact HB.out))) : w.heap.size ≤ gb1088)); clear HB; have HB := n0_; have BK1088 := n1_; have GW1088 := n2_; have GE1088 := n3_; clear n0_ n1_ n2_ n3_; clear hb hbox hg; have hcz10_0 : w9.cell? ⟨gb1088, 0, none⟩ = some (.int .i8 a0_0) := (blk_cell BK1088.out 0).trans rfl; have hcz10_1 : w9.cell? ⟨gb1088, 1, none⟩ = some (.int .i8 a0_1) := (blk_cell BK1088.out 1).trans rfl; have hcz10_2 : w9.cell? ⟨gb1088, 2, none⟩ = some (.int .i8 a0_2) := (blk_cell BK1088.out 2).trans rfl; have hcz10_3 : w9.cell? ⟨gb1088, 3, none⟩ = some (.int .i8 a0_3) := (blk_cell BK1088.out 3).trans rfl; have hcz10_4 : w9.cell? ⟨gb1088, 4, none⟩ = some (.int .i8 a0_4) := (blk_cell BK1088.out 4).trans rfl; have hcz10_5 : w9.cell? ⟨gb1088, 5, none⟩ = some (.int .i8 a0_5) := (blk_cell BK1088.out 5).trans rfl; have hcz10_6 : w9.cell? ⟨gb1088, 6, none⟩ = some (.int .i8 a0_6) := (blk_cell BK1088.out 6).trans rfl; have hcz10_7 : w9.cell? ⟨gb1088, 7, none⟩ = some (.int .i8 a0_7) := (blk_cell BK1088.out 7).trans rfl; have hcz10_8 : w9.cell? ⟨gb1088, 8, none⟩ = some (.int .i8 a0_8) := (blk_cell BK1088.out 8).trans rfl; have hcz10_9 : w9.cell? ⟨gb1088, 9, none⟩ = some (.int .i8 a0_9) := (blk_cell BK1088.out 9).trans rfl; have hcz10_10 : w9.cell? ⟨gb1088, 10, none⟩ = some (.int .i8 a0_10) := (blk_cell BK1088.out 10).trans rfl; have hcz10_11 : w9.cell? ⟨gb1088, 11, none⟩ = some (.int .i8 a0_11) := (blk_cell BK1088.out 11).trans rfl; have hcz10_12 : w9.cell? ⟨gb1088, 12, none⟩ = some (.int .i8 a0_12) := (blk_cell BK1088.out 12).trans rfl; have hcz10_13 : w9.cell? ⟨gb1088, 13, none⟩ = some (.int .i8 a0_13) := (blk_cell BK1088.out 13).trans rfl; have hcz10_14 : w9.cell? ⟨gb1088, 14, none⟩ = some (.int .i8 a0_14) := (blk_cell BK1088.out 14).trans rfl; have hcz10_15 : w9.cell? ⟨gb1088, 15, none⟩ = some (.int .i8 a0_15) := (blk_cell BK1088.out 15).trans rfl; have hcz10_16 : w9.cell? ⟨gb1088, 16, none⟩ = some (.int .i8 a0_16) := (blk_cell BK1088.out 16).trans rfl; have hcz10_17 : w9.cell? ⟨gb1088, 17, none⟩ = some (.int .i8 a0_17) := (blk_cell BK1088.out 17).trans rfl; have hcz10_18 : w9.cell? ⟨gb1088, 18, none⟩ = some (.int .i8 a0_18) := (blk_cell BK1088.out 18).trans rfl; have hcz10_19 : w9.cell? ⟨gb1088, 19, none⟩ = some (.int .i8 a0_19) := (blk_cell BK1088.out 19).trans rfl; have hcz10_20 : w9.cell? ⟨gb1088, 20, none⟩ = some (.int .i8 a0_20) := (blk_cell BK1088.out 20).trans rfl; have hcz10_21 : w9.cell? ⟨gb1088, 21, none⟩ = some (.int .i8 a0_21) := (blk_cell BK1088.out 21).trans rfl; have hcz10_22 : w9.cell? ⟨gb1088, 22, none⟩ = some (.int .i8 a0_22) := (blk_cell BK1088.out 22).trans rfl; have hcz10_23 : w9.cell? ⟨gb1088, 23, none⟩ = some (.int .i8 a0_23) := (blk_cell BK1088.out 23).trans rfl; have hcz10_24 : w9.cell? ⟨gb1088, 24, none⟩ = some (.int .i8 a0_24) := (blk_cell BK1088.out 24).trans rfl; have hcz10_25 : w9.cell? ⟨gb1088, 25, none⟩ = some (.int .i8 a0_25) := (blk_cell BK1088.out 25).trans rfl; have hcz10_26 : w9.cell? ⟨gb1088, 26, none⟩ = some (.int .i8 a0_26) := (blk_cell BK1088.out 26).trans rfl; have hcz10_27 : w9.cell? ⟨gb1088, 27, none⟩ = some (.int .i8 a0_27) := (blk_cell BK1088.out 27).trans rfl; have hcz10_28 : w9.cell? ⟨gb1088, 28, none⟩ = some (.slice A0_28 l0_28.length c0_28) := (blk_cell BK1088.out 28).trans rfl; have hcz10_29 : w9.cell? ⟨gb1088, 29, none⟩ = some (.string a0_29) := (blk_cell BK1088.out 29).trans rfl; have hcz10_30 : w9.cell? ⟨gb1088, 30, none⟩ = some (.string a0_30) := (blk_cell BK1088.out 30).trans rfl; have hcz10_31 : w9.cell? ⟨gb1088, 31, none⟩ = some (.int .i64 a0_31) := (blk_cell BK1088.out 31).trans rfl; have hfz10_0 := blk_frozen BK1088.out 0; have hfz10_1 := blk_frozen BK1088.out 1; have hfz10_2 := blk_frozen BK1088.out 2; have hfz10_3 := blk_frozen BK1088.out 3; have hfz10_4 := blk_frozen BK1088.out 4; have hfz10_5 := blk_frozen BK1088.out 5; have hfz10_6 := blk_frozen BK1088.out 6; have hfz10_7 := blk_frozen BK1088.out 7; have hfz10_8 := blk_frozen BK1088.out 8; have hfz10_9 := blk_frozen BK1088.out 9; have hfz10_10 := blk_frozen BK1088.out 10; have hfz10_11 := blk_frozen BK1088.out 11; have hfz10_12 := blk_frozen BK1088.out 12; have hfz10_13 := blk_frozen BK1088.out 13; have hfz10_14 := blk_frozen BK1088.out 14; have hfz10_15 := blk_frozen BK1088.out 15; have hfz10_16 := blk_frozen BK1088.out 16; have hfz10_17 := blk_frozen BK1088.out 17; have hfz10_18 := blk_frozen BK1088.out 18; have hfz10_19 := blk_frozen BK1088.out 19; have hfz10_20 := blk_frozen BK1088.out 20; have hfz10_21 := blk_frozen BK1088.out 21; have hfz10_22 := blk_frozen BK1088.out 22; have hfz10_23 := blk_frozen BK1088.out 23; have hfz10_24 := blk_frozen BK1088.out 24; have hfz10_25 := blk_frozen BK1088.out 25; have hfz10_26 := blk_frozen BK1088.out 26; have hfz10_27 := blk_frozen BK1088.out 27; have hfz10_28 := blk_frozen BK1088.out 28; have hfz10_29 := blk_frozen BK1088.out 29; have hfz10_30 := blk_frozen BK1088.out 30; have hfz10_31 := blk_frozen BK1088.out 31) | ((with_reducible refine gate_callee (f := 109) rfl ?_); refine goesL_ (some 16) rfl rfl Tryd.func109 (by kernel_rfl) rfl #[.string ((a0_29 ++ a1) ++ a0_30)] rfl (by (try simp only [List.map_toArray, List.map_cons, List.map_nil]); first | done | rfl | (simp only [List.length_drop, List.length_take]; rfl)) ?_; (with_reducible refine (impl_ValidText.calls k ((a0_29 ++ a1) ++ a0_30) true _ ?sideG A5.out).mono ?_); (case sideG => first | exact HG.out.below (by repeat (first | (with_reducible first | exact HB.out | apply below_alloc | apply pw_below_drewN | apply below_drew1) | exact HB.out)) | exact (HG.out.below (by repeat (first | (with_reducible first | exact HB.out | apply below_alloc | apply pw_below_drewN | apply below_drew1) | exact HB.out))).toM); rintro e w11 ⟨rfl, hb⟩; refine ⟨_, rfl, ?_⟩; have n0_ := Aside0.mk (blk_below (g := gb1088) (o := .cells #[.int .i8 a0_0, .int .i8 a0_1, .int .i8 a0_2, .int .i8 a0_3, .int .i8 a0_4, .int .i8 a0_5, .int .i8 a0_6, .int .i8 a0_7, .int .i8 a0_8, .int .i8 a0_9, .int .i8 a0_10, .int .i8 a0_11, .int .i8 a0_12, .int .i8 a0_13, .int .i8 a0_14, .int .i8 a0_15, .int .i8 a0_16, .int .i8 a0_17, .int .i8 a0_18, .int .i8 a0_19, .int .i8 a0_20, .int .i8 a0_21, .int .i8 a0_22, .int .i8 a0_23, .int .i8 a0_24, .int .i8 a0_25, .int .i8 a0_26, .int .i8 a0_27, .slice A0_28 l0_28.length c0_28, .string a0_29, .string a0_30, .int .i64 a0_31] 108 (0, 0)) (by (with_reducible repeat (first | refine blk_drewN ?_ _ | refine blk_drew ?_ | refine blk_alloc ?_ _)); exact BK1088.out) hb); have n1_ := Aside0.mk (below_step (by repeat (first | (with_reducible first | exact HB.out | apply below_alloc | apply pw_below_drewN | apply below_drew1 | refine below_set ?_ GE1088.out) | exact HB.out)) hb); clear BK1088; clear HB; have BK1088 := n0_; have HB := n1_; clear n0_ n1_; (try clear hb); (try clear hb2); (try clear hk); (try clear hi)))
        have n0_ := Aside0.mk (blk_drew BK1088.out)
        have n1_ := Aside0.mk (below_drew1 HB.out)
        clear BK1088
        clear HB
        have BK1088 := n0_
        have HB := n1_
        clear n0_ n1_
        refine start_ (n := 8) (S := fun w' => w'.cell? ⟨gb1088, 0, none⟩ = some (.int .i8 a0_0) ∧ w'.cell? ⟨gb1088, 1, none⟩ = some (.int .i8 a0_1) ∧ w'.cell? ⟨gb1088, 2, none⟩ = some (.int .i8 a0_2) ∧ w'.cell? ⟨gb1088, 3, none⟩ = some (.int .i8 a0_3) ∧ w'.cell? ⟨gb1088, 4, none⟩ = some (.int .i8 a0_4) ∧ w'.cell? ⟨gb1088, 5, none⟩ = some (.int .i8 a0_5) ∧ w'.cell? ⟨gb1088, 6, none⟩ = some (.int .i8 a0_6) ∧ w'.cell? ⟨gb1088, 7, none⟩ = some (.int .i8 a0_7) ∧ w'.cell? ⟨gb1088, 8, none⟩ = some (.int .i8 a0_8) ∧ w'.cell? ⟨gb1088, 9, none⟩ = some (.int .i8 a0_9) ∧ w'.cell? ⟨gb1088, 10, none⟩ = some (.int .i8 a0_10) ∧ w'.cell? ⟨gb1088, 11, none⟩ = some (.int .i8 a0_11) ∧ w'.cell? ⟨gb1088, 12, none⟩ = some (.int .i8 a0_12) ∧ w'.cell? ⟨gb1088, 13, none⟩ = some (.int .i8 a0_13) ∧ w'.cell? ⟨gb1088, 14, none⟩ = some (.int .i8 a0_14) ∧ w'.cell? ⟨gb1088, 15, none⟩ = some (.int .i8 a0_15) ∧ w'.cell? ⟨gb1088, 16, none⟩ = some (.int .i8 a0_16) ∧ w'.cell? ⟨gb1088, 17, none⟩ = some (.int .i8 a0_17) ∧ w'.cell? ⟨gb1088, 18, none⟩ = some (.int .i8 a0_18) ∧ w'.cell? ⟨gb1088, 19, none⟩ = some (.int .i8 a0_19) ∧ w'.cell? ⟨gb1088, 20, none⟩ = some (.int .i8 a0_20) ∧ w'.cell? ⟨gb1088, 21, none⟩ = some (.int .i8 a0_21) ∧ w'.cell? ⟨gb1088, 22, none⟩ = some (.int .i8 a0_22) ∧ w'.cell? ⟨gb1088, 23, none⟩ = some (.int .i8 a0_23) ∧ w'.cell? ⟨gb1088, 24, none⟩ = some (.int .i8 a0_24) ∧ w'.cell? ⟨gb1088, 25, none⟩ = some (.int .i8 a0_25) ∧ w'.cell? ⟨gb1088, 26, none⟩ = some (.int .i8 a0_26) ∧ w'.cell? ⟨gb1088, 27, none⟩ = some (.int .i8 a0_27) ∧ w'.cell? ⟨gb1088, 28, none⟩ = some (.slice A0_28 l0_28.length c0_28) ∧ w'.cell? ⟨gb1088, 29, none⟩ = some (.string a0_29) ∧ w'.cell? ⟨gb1088, 30, none⟩ = some (.string a0_30) ∧ w'.cell? ⟨gb1088, 31, none⟩ = some (.int .i64 a0_31) ∧ w'.heap[gb1088]? = some (.cells #[.int .i8 a0_0, .int .i8 a0_1, .int .i8 a0_2, .int .i8 a0_3, .int .i8 a0_4, .int .i8 a0_5, .int .i8 a0_6, .int .i8 a0_7, .int .i8 a0_8, .int .i8 a0_9, .int .i8 a0_10, .int .i8 a0_11, .int .i8 a0_12, .int .i8 a0_13, .int .i8 a0_14, .int .i8 a0_15, .int .i8 a0_16, .int .i8 a0_17, .int .i8 a0_18, .int .i8 a0_19, .int .i8 a0_20, .int .i8 a0_21, .int .i8 a0_22, .int .i8 a0_23, .int .i8 a0_24, .int .i8 a0_25, .int .i8 a0_26, .int .i8 a0_27, .slice A0_28 l0_28.length c0_28, .string a0_29, .string a0_30, .int .i64 a0_31] 108 (0, 0))) (ds := []) #[false, false, false, false, false, false, false, false] (by kernel_rfl) rfl rfl ⟨(blk_cell BK1088.out 0).trans rfl, (blk_cell BK1088.out 1).trans rfl, (blk_cell BK1088.out 2).trans rfl, (blk_cell BK1088.out 3).trans rfl, (blk_cell BK1088.out 4).trans rfl, (blk_cell BK1088.out 5).trans rfl, (blk_cell BK1088.out 6).trans rfl, (blk_cell BK1088.out 7).trans rfl, (blk_cell BK1088.out 8).trans rfl, (blk_cell BK1088.out 9).trans rfl, (blk_cell BK1088.out 10).trans rfl, (blk_cell BK1088.out 11).trans rfl, (blk_cell BK1088.out 12).trans rfl, (blk_cell BK1088.out 13).trans rfl, (blk_cell BK1088.out 14).trans rfl, (blk_cell BK1088.out 15).trans rfl, (blk_cell BK1088.out 16).trans rfl, (blk_cell BK1088.out 17).trans rfl, (blk_cell BK1088.out 18).trans rfl, (blk_cell BK1088.out 19).trans rfl, (blk_cell BK1088.out 20).trans rfl, (blk_cell BK1088.out 21).trans rfl, (blk_cell BK1088.out 22).trans rfl, (blk_cell BK1088.out 23).trans rfl, (blk_cell BK1088.out 24).trans rfl, (blk_cell BK1088.out 25).trans rfl, (blk_cell BK1088.out 26).trans rfl, (blk_cell BK1088.out 27).trans rfl, (blk_cell BK1088.out 28).trans rfl, (blk_cell BK1088.out 29).trans rfl, (blk_cell BK1088.out 30).trans rfl, (blk_cell BK1088.out 31).trans rfl, BK1088.out⟩ (fun hHeld => ?_); refine with_tabW impl_gapLine_differs.tab4 impl_gapLine_differs.bits4 (fun HT_ HW_ => ?_)
        generalize w11.drew = w12 at BK1088 HB hHeld ⊢
        refine pure_ (i := 0) (N := some 18) (v := ?_) (a' := ?_) #[true, false, false, false, false, false, false, false] rfl rfl (any_of HT_.out (by kernel_rfl)) (fun _ _ _ h => h) (Or.inl ⟨by rfl, ?_⟩) ?_ ?_
        rotate_left
        · intro w'
          go_simp
          with_reducible rfl
        rotate_left
        · simp only [Act.put, List.setIfInBounds_toArray, List.set_cons_zero, List.set_cons_succ, i64_w, i32_w, u8_w_]
          rfl
        refine pure_ (i := 2) (N := some 20) (v := ?_) (a' := ?_) #[true, false, true, false, false, false, false, false] rfl rfl (any_of HT_.out (by kernel_rfl)) (fun _ _ _ h => h) (Or.inl ⟨by rfl, ?_⟩) ?_ ?_
        rotate_left
        · intro w'
          go_simp
          with_reducible rfl
        rotate_left
        · simp only [Act.put, List.setIfInBounds_toArray, List.set_cons_zero, List.set_cons_succ, i64_w, i32_w, u8_w_]
          rfl
        refine pure_ (i := 4) (N := some 22) (v := ?_) (a' := ?_) #[true, false, true, false, true, false, false, false] rfl rfl (any_of HT_.out (by kernel_rfl)) (fun _ _ _ h => h) (Or.inl ⟨by rfl, ?_⟩) ?_ ?_
        rotate_left
        · intro w'
          go_simp
          with_reducible rfl
        rotate_left
        · simp only [Act.put, List.setIfInBounds_toArray, List.set_cons_zero, List.set_cons_succ, i64_w, i32_w, u8_w_]
          rfl
        refine take_ (i := 1) (N := some 19) (v := ?_) (a' := ?_) #[true, true, true, false, true, false, false, false] rfl rfl (take_ofW HT_.out HW_.out (by kernel_rfl)) (fun _ _ _ h => h) (Or.inl ⟨by rfl, ?_⟩) hHeld ?_ ?_
        rotate_left
        · rintro w' ⟨s0, s1, s2, s3, s4, s5, s6, s7, s8, s9, s10, s11, s12, s13, s14, s15, s16, s17, s18, s19, s20, s21, s22, s23, s24, s25, s26, s27, s28, s29, s30, s31, s32⟩
          refine exec_load_partx_ 32 (.tmp 18) _ 0 [] [.int .i8 a0_0, .int .i8 a0_1, .int .i8 a0_2, .int .i8 a0_3, .int .i8 a0_4, .int .i8 a0_5, .int .i8 a0_6, .int .i8 a0_7, .int .i8 a0_8, .int .i8 a0_9, .int .i8 a0_10, .int .i8 a0_11, .int .i8 a0_12, .int .i8 a0_13, .int .i8 a0_14, .int .i8 a0_15, .int .i8 a0_16, .int .i8 a0_17, .int .i8 a0_18, .int .i8 a0_19, .int .i8 a0_20, .int .i8 a0_21, .int .i8 a0_22, .int .i8 a0_23, .int .i8 a0_24, .int .i8 a0_25, .int .i8 a0_26, .int .i8 a0_27, .slice A0_28 l0_28.length c0_28] [.string a0_29, .string a0_30, .int .i64 a0_31] rfl s32 ?_ ?_ Tryd.underlying32 rfl (by exact (show (Tryd.prog.info? 32).map (·.size) = some 29 by kernel_rfl))
          · rfl
          · rfl
        rotate_left
        · simp only [Act.put, List.setIfInBounds_toArray, List.set_cons_zero, List.set_cons_succ, i64_w, i32_w, u8_w_]
          rfl
        refine take_ (i := 5) (N := some 23) (v := ?_) (a' := ?_) #[true, true, true, false, true, true, false, false] rfl rfl (take_ofW HT_.out HW_.out (by kernel_rfl)) (fun _ _ _ h => h) (Or.inl ⟨by rfl, ?_⟩) hHeld ?_ ?_
        rotate_left
        · rintro w' ⟨s0, s1, s2, s3, s4, s5, s6, s7, s8, s9, s10, s11, s12, s13, s14, s15, s16, s17, s18, s19, s20, s21, s22, s23, s24, s25, s26, s27, s28, s29, s30, s31, s32⟩
          go_simp
          with_reducible rfl
        rotate_left
        · simp only [Act.put, List.setIfInBounds_toArray, List.set_cons_zero, List.set_cons_succ, i64_w, i32_w, u8_w_]
          rfl
        refine one_ (i := 3) (N := some 21) #[true, true, true, true, true, true, false, false] rfl rfl (one_of HT_.out (by kernel_rfl)) (by decide) (fun K hK => ?_)
        refine goes_ Tryd.func70 (by kernel_rfl) rfl #[.agg #[.int .i8 a0_0, .int .i8 a0_1, .int .i8 a0_2, .int .i8 a0_3, .int .i8 a0_4, .int .i8 a0_5, .int .i8 a0_6, .int .i8 a0_7, .int .i8 a0_8, .int .i8 a0_9, .int .i8 a0_10, .int .i8 a0_11, .int .i8 a0_12, .int .i8 a0_13, .int .i8 a0_14, .int .i8 a0_15, .int .i8 a0_16, .int .i8 a0_17, .int .i8 a0_18, .int .i8 a0_19, .int .i8 a0_20, .int .i8 a0_21, .int .i8 a0_22, .int .i8 a0_23, .int .i8 a0_24, .int .i8 a0_25, .int .i8 a0_26, .int .i8 a0_27, .slice A0_28 l0_28.length c0_28], .string ((a0_29 ++ a1) ++ a0_30)] (by rfl) rfl rfl (by (try simp only [List.map_toArray, List.map_cons, List.map_nil]); first | done | rfl | (simp only [List.length_drop, List.length_take]; rfl)) ?_
        with_reducible refine (impl_Face_wide.calls k a0_0 a0_1 a0_2 a0_3 a0_4 a0_5 a0_6 a0_7 a0_8 a0_9 a0_10 a0_11 a0_12 a0_13 a0_14 a0_15 a0_16 a0_17 a0_18 a0_19 a0_20 a0_21 a0_22 a0_23 a0_24 a0_25 a0_26 a0_27 _ _ l0_28 ((a0_29 ++ a1) ++ a0_30) t1090 _ ?side1 ?side2 A7.out).mono ?_
        (case side1 => repeat (first | exact (Kd.C_below HR0_28.out HB.out) | (with_reducible refine Kd.C_alloc ?_ _) | (with_reducible refine Kd.C_drewN ?_ _) | (with_reducible refine Kd.C_drew ?_)))
        (case side2 => exact HC0_28.out)
        rintro e w13 ⟨rfl, hb⟩
        refine ⟨_, rfl, ?_⟩
        have n0_ := Aside0.mk (blk_below (g := gb1088) (o := .cells #[.int .i8 a0_0, .int .i8 a0_1, .int .i8 a0_2, .int .i8 a0_3, .int .i8 a0_4, .int .i8 a0_5, .int .i8 a0_6, .int .i8 a0_7, .int .i8 a0_8, .int .i8 a0_9, .int .i8 a0_10, .int .i8 a0_11, .int .i8 a0_12, .int .i8 a0_13, .int .i8 a0_14, .int .i8 a0_15, .int .i8 a0_16, .int .i8 a0_17, .int .i8 a0_18, .int .i8 a0_19, .int .i8 a0_20, .int .i8 a0_21, .int .i8 a0_22, .int .i8 a0_23, .int .i8 a0_24, .int .i8 a0_25, .int .i8 a0_26, .int .i8 a0_27, .slice A0_28 l0_28.length c0_28, .string a0_29, .string a0_30, .int .i64 a0_31] 108 (0, 0)) (by (with_reducible repeat (first | refine blk_drewN ?_ _ | refine blk_drew ?_ | refine blk_alloc ?_ _)); exact BK1088.out) hb)
        have n1_ := Aside0.mk (below_step (by repeat (first | (with_reducible first | exact HB.out | apply below_alloc | apply pw_below_drewN | apply below_drew1 | refine below_set ?_ GE1088.out) | exact HB.out)) hb)
        clear BK1088
        clear HB
        have BK1088 := n0_
        have HB := n1_
        clear n0_ n1_
        (try clear hb)
        (try clear hb2)
        (try clear hk)
        (try clear hi)
        refine hK.out _ _ ⟨(blk_cell BK1088.out 0).trans rfl, (blk_cell BK1088.out 1).trans rfl, (blk_cell BK1088.out 2).trans rfl, (blk_cell BK1088.out 3).trans rfl, (blk_cell BK1088.out 4).trans rfl, (blk_cell BK1088.out 5).trans rfl, (blk_cell BK1088.out 6).trans rfl, (blk_cell BK1088.out 7).trans rfl, (blk_cell BK1088.out 8).trans rfl, (blk_cell BK1088.out 9).trans rfl, (blk_cell BK1088.out 10).trans rfl, (blk_cell BK1088.out 11).trans rfl, (blk_cell BK1088.out 12).trans rfl, (blk_cell BK1088.out 13).trans rfl, (blk_cell BK1088.out 14).trans rfl, (blk_cell BK1088.out 15).trans rfl, (blk_cell BK1088.out 16).trans rfl, (blk_cell BK1088.out 17).trans rfl, (blk_cell BK1088.out 18).trans rfl, (blk_cell BK1088.out 19).trans rfl, (blk_cell BK1088.out 20).trans rfl, (blk_cell BK1088.out 21).trans rfl, (blk_cell BK1088.out 22).trans rfl, (blk_cell BK1088.out 23).trans rfl, (blk_cell BK1088.out 24).trans rfl, (blk_cell BK1088.out 25).trans rfl, (blk_cell BK1088.out 26).trans rfl, (blk_cell BK1088.out 27).trans rfl, (blk_cell BK1088.out 28).trans rfl, (blk_cell BK1088.out 29).trans rfl, (blk_cell BK1088.out 30).trans rfl, (blk_cell BK1088.out 31).trans rfl, BK1088.out⟩ (fun hHeld => ?_)
        clear hK K
        refine norm_ (a' := ?_) ?_ ?_
        rotate_left
        · show Act.put _ (some 21) _ = _
          simp only [Act.put, List.setIfInBounds_toArray, List.set_cons_zero, List.set_cons_succ, i64_w, i32_w, u8_w_]
          rfl
        refine pure_ (i := 6) (N := some 24) (v := ?_) (a' := ?_) #[true, true, true, true, true, true, true, false] rfl rfl (any_of HT_.out (by kernel_rfl)) (fun _ _ _ h => h) (Or.inl ⟨by rfl, ?_⟩) ?_ ?_
        rotate_left
        · intro w'
          go_simp
          with_reducible rfl
        rotate_left
        · simp only [Act.put, List.setIfInBounds_toArray, List.set_cons_zero, List.set_cons_succ, i64_w, i32_w, u8_w_]
          rfl
        refine pure_ (i := 7) (N := some 7) (v := ?_) (a' := ?_) #[true, true, true, true, true, true, true, true] rfl rfl (any_of HT_.out (by kernel_rfl)) (fun _ _ _ h => h) (Or.inl ⟨by rfl, ?_⟩) ?_ ?_
        rotate_left
        · intro w'
          go_simp
          with_reducible rfl
        rotate_left
        · simp only [Act.put, List.setIfInBounds_toArray, List.set_cons_zero, List.set_cons_succ, i64_w, i32_w, u8_w_]
          rfl
        refine done_ (done_of HT_.out (by kernel_rfl)) ?_
        try go_wp2
        go_ret2
        exact ⟨by first | rfl | (simp [errW_none, errW_some] <;> rfl) | (simp only [← hji8]; first | rfl | (simp [errW_none, errW_some] <;> rfl)) | (simp [*, errW_none, errW_some] <;> rfl), by repeat (first | (with_reducible first | exact HB.out | apply below_alloc | apply pw_below_drewN | apply below_drew1 | refine below_set ?_ GE1088.out) | exact HB.out)⟩
      · replace c6 := Bool.eq_false_iff.mpr c6
        subst c6
        have H1 : (some (0, false)) = some (r1, r2) := by rw [if_neg (show ¬ (false = true) by decide)] at H; exact H
        clear H
        have H := H1
        clear H1
        simp only [Option.some.injEq, Prod.mk.injEq] at H
        obtain ⟨rfl, rfl⟩ := H
        go_enter Tryd.func92, Tryd.ntmps92
        go_wp2_with (first | ((with_reducible refine gate_dst (N := 2) rfl ?_); refine box_event ?hg (N := 2) ?hd (cs := #[.int .i8 a0_0, .int .i8 a0_1, .int .i8 a0_2, .int .i8 a0_3, .int .i8 a0_4, .int .i8 a0_5, .int .i8 a0_6, .int .i8 a0_7, .int .i8 a0_8, .int .i8 a0_9, .int .i8 a0_10, .int .i8 a0_11, .int .i8 a0_12, .int .i8 a0_13, .int .i8 a0_14, .int .i8 a0_15, .int .i8 a0_16, .int .i8 a0_17, .int .i8 a0_18, .int .i8 a0_19, .int .i8 a0_20, .int .i8 a0_21, .int .i8 a0_22, .int .i8 a0_23, .int .i8 a0_24, .int .i8 a0_25, .int .i8 a0_26, .int .i8 a0_27, .slice A0_28 l0_28.length c0_28, .string a0_29, .string a0_30, .int .i64 a0_31]) (t := 108) ?hr ?_; (case hd => rfl); (case hg => rfl); (case hr => first | (go_simp; done) | (go_simp; rfl)); intro gb1088 hg w14 hbox hb; have n0_ := Aside0.mk (below_step (by repeat (first | (with_reducible first | exact HB.out | apply below_alloc | apply pw_below_drewN | apply below_drew1) | exact HB.out)) hb); have n1_ := Aside0.mk (hbox); have n2_ := Aside0.mk ((by rw [hg]; exact (below_size (by repeat (first | (with_reducible first | exact HB.out | apply below_alloc | apply pw_below_drewN | apply below_drew1) | exact HB.out))) : w.heap.size ≤ gb1088)); have n3_ := Aside0.mk ((by rw [hg]; exact (below_size (by repeat (first | (with_reducible first | exact HB.out | apply below_alloc | apply pw_below_drewN | apply below_drew1) | exact HB.out))) : w.heap.size ≤ gb1088)); clear HB; have HB := n0_; have BK1088 := n1_; have GW1088 := n2_; have GE1088 := n3_; clear n0_ n1_ n2_ n3_; clear hb hbox hg; have hcz15_0 : w14.cell? ⟨gb1088, 0, none⟩ = some (.int .i8 a0_0) := (blk_cell BK1088.out 0).trans rfl; have hcz15_1 : w14.cell? ⟨gb1088, 1, none⟩ = some (.int .i8 a0_1) := (blk_cell BK1088.out 1).trans rfl; have hcz15_2 : w14.cell? ⟨gb1088, 2, none⟩ = some (.int .i8 a0_2) := (blk_cell BK1088.out 2).trans rfl; have hcz15_3 : w14.cell? ⟨gb1088, 3, none⟩ = some (.int .i8 a0_3) := (blk_cell BK1088.out 3).trans rfl; have hcz15_4 : w14.cell? ⟨gb1088, 4, none⟩ = some (.int .i8 a0_4) := (blk_cell BK1088.out 4).trans rfl; have hcz15_5 : w14.cell? ⟨gb1088, 5, none⟩ = some (.int .i8 a0_5) := (blk_cell BK1088.out 5).trans rfl; have hcz15_6 : w14.cell? ⟨gb1088, 6, none⟩ = some (.int .i8 a0_6) := (blk_cell BK1088.out 6).trans rfl; have hcz15_7 : w14.cell? ⟨gb1088, 7, none⟩ = some (.int .i8 a0_7) := (blk_cell BK1088.out 7).trans rfl; have hcz15_8 : w14.cell? ⟨gb1088, 8, none⟩ = some (.int .i8 a0_8) := (blk_cell BK1088.out 8).trans rfl; have hcz15_9 : w14.cell? ⟨gb1088, 9, none⟩ = some (.int .i8 a0_9) := (blk_cell BK1088.out 9).trans rfl; have hcz15_10 : w14.cell? ⟨gb1088, 10, none⟩ = some (.int .i8 a0_10) := (blk_cell BK1088.out 10).trans rfl; have hcz15_11 : w14.cell? ⟨gb1088, 11, none⟩ = some (.int .i8 a0_11) := (blk_cell BK1088.out 11).trans rfl; have hcz15_12 : w14.cell? ⟨gb1088, 12, none⟩ = some (.int .i8 a0_12) := (blk_cell BK1088.out 12).trans rfl; have hcz15_13 : w14.cell? ⟨gb1088, 13, none⟩ = some (.int .i8 a0_13) := (blk_cell BK1088.out 13).trans rfl; have hcz15_14 : w14.cell? ⟨gb1088, 14, none⟩ = some (.int .i8 a0_14) := (blk_cell BK1088.out 14).trans rfl; have hcz15_15 : w14.cell? ⟨gb1088, 15, none⟩ = some (.int .i8 a0_15) := (blk_cell BK1088.out 15).trans rfl; have hcz15_16 : w14.cell? ⟨gb1088, 16, none⟩ = some (.int .i8 a0_16) := (blk_cell BK1088.out 16).trans rfl; have hcz15_17 : w14.cell? ⟨gb1088, 17, none⟩ = some (.int .i8 a0_17) := (blk_cell BK1088.out 17).trans rfl; have hcz15_18 : w14.cell? ⟨gb1088, 18, none⟩ = some (.int .i8 a0_18) := (blk_cell BK1088.out 18).trans rfl; have hcz15_19 : w14.cell? ⟨gb1088, 19, none⟩ = some (.int .i8 a0_19) := (blk_cell BK1088.out 19).trans rfl; have hcz15_20 : w14.cell? ⟨gb1088, 20, none⟩ = some (.int .i8 a0_20) := (blk_cell BK1088.out 20).trans rfl; have hcz15_21 : w14.cell? ⟨gb1088, 21, none⟩ = some (.int .i8 a0_21) := (blk_cell BK1088.out 21).trans rfl; have hcz15_22 : w14.cell? ⟨gb1088, 22, none⟩ = some (.int .i8 a0_22) := (blk_cell BK1088.out 22).trans rfl; have hcz15_23 : w14.cell? ⟨gb1088, 23, none⟩ = some (.int .i8 a0_23) := (blk_cell BK1088.out 23).trans rfl; have hcz15_24 : w14.cell? ⟨gb1088, 24, none⟩ = some (.int .i8 a0_24) := (blk_cell BK1088.out 24).trans rfl; have hcz15_25 : w14.cell? ⟨gb1088, 25, none⟩ = some (.int .i8 a0_25) := (blk_cell BK1088.out 25).trans rfl; have hcz15_26 : w14.cell? ⟨gb1088, 26, none⟩ = some (.int .i8 a0_26) := (blk_cell BK1088.out 26).trans rfl; have hcz15_27 : w14.cell? ⟨gb1088, 27, none⟩ = some (.int .i8 a0_27) := (blk_cell BK1088.out 27).trans rfl; have hcz15_28 : w14.cell? ⟨gb1088, 28, none⟩ = some (.slice A0_28 l0_28.length c0_28) := (blk_cell BK1088.out 28).trans rfl; have hcz15_29 : w14.cell? ⟨gb1088, 29, none⟩ = some (.string a0_29) := (blk_cell BK1088.out 29).trans rfl; have hcz15_30 : w14.cell? ⟨gb1088, 30, none⟩ = some (.string a0_30) := (blk_cell BK1088.out 30).trans rfl; have hcz15_31 : w14.cell? ⟨gb1088, 31, none⟩ = some (.int .i64 a0_31) := (blk_cell BK1088.out 31).trans rfl; have hfz15_0 := blk_frozen BK1088.out 0; have hfz15_1 := blk_frozen BK1088.out 1; have hfz15_2 := blk_frozen BK1088.out 2; have hfz15_3 := blk_frozen BK1088.out 3; have hfz15_4 := blk_frozen BK1088.out 4; have hfz15_5 := blk_frozen BK1088.out 5; have hfz15_6 := blk_frozen BK1088.out 6; have hfz15_7 := blk_frozen BK1088.out 7; have hfz15_8 := blk_frozen BK1088.out 8; have hfz15_9 := blk_frozen BK1088.out 9; have hfz15_10 := blk_frozen BK1088.out 10; have hfz15_11 := blk_frozen BK1088.out 11; have hfz15_12 := blk_frozen BK1088.out 12; have hfz15_13 := blk_frozen BK1088.out 13; have hfz15_14 := blk_frozen BK1088.out 14; have hfz15_15 := blk_frozen BK1088.out 15; have hfz15_16 := blk_frozen BK1088.out 16; have hfz15_17 := blk_frozen BK1088.out 17; have hfz15_18 := blk_frozen BK1088.out 18; have hfz15_19 := blk_frozen BK1088.out 19; have hfz15_20 := blk_frozen BK1088.out 20; have hfz15_21 := blk_frozen BK1088.out 21; have hfz15_22 := blk_frozen BK1088.out 22; have hfz15_23 := blk_frozen BK1088.out 23; have hfz15_24 := blk_frozen BK1088.out 24; have hfz15_25 := blk_frozen BK1088.out 25; have hfz15_26 := blk_frozen BK1088.out 26; have hfz15_27 := blk_frozen BK1088.out 27; have hfz15_28 := blk_frozen BK1088.out 28; have hfz15_29 := blk_frozen BK1088.out 29; have hfz15_30 := blk_frozen BK1088.out 30; have hfz15_31 := blk_frozen BK1088.out 31) | ((with_reducible refine gate_callee (f := 109) rfl ?_); refine goesL_ (some 16) rfl rfl Tryd.func109 (by kernel_rfl) rfl #[.string ((a0_29 ++ a1) ++ a0_30)] rfl (by (try simp only [List.map_toArray, List.map_cons, List.map_nil]); first | done | rfl | (simp only [List.length_drop, List.length_take]; rfl)) ?_; (with_reducible refine (impl_ValidText.calls k ((a0_29 ++ a1) ++ a0_30) false _ ?sideG A5.out).mono ?_); (case sideG => first | exact HG.out.below (by repeat (first | (with_reducible first | exact HB.out | apply below_alloc | apply pw_below_drewN | apply below_drew1) | exact HB.out)) | exact (HG.out.below (by repeat (first | (with_reducible first | exact HB.out | apply below_alloc | apply pw_below_drewN | apply below_drew1) | exact HB.out))).toM); rintro e w16 ⟨rfl, hb⟩; refine ⟨_, rfl, ?_⟩; have n0_ := Aside0.mk (blk_below (g := gb1088) (o := .cells #[.int .i8 a0_0, .int .i8 a0_1, .int .i8 a0_2, .int .i8 a0_3, .int .i8 a0_4, .int .i8 a0_5, .int .i8 a0_6, .int .i8 a0_7, .int .i8 a0_8, .int .i8 a0_9, .int .i8 a0_10, .int .i8 a0_11, .int .i8 a0_12, .int .i8 a0_13, .int .i8 a0_14, .int .i8 a0_15, .int .i8 a0_16, .int .i8 a0_17, .int .i8 a0_18, .int .i8 a0_19, .int .i8 a0_20, .int .i8 a0_21, .int .i8 a0_22, .int .i8 a0_23, .int .i8 a0_24, .int .i8 a0_25, .int .i8 a0_26, .int .i8 a0_27, .slice A0_28 l0_28.length c0_28, .string a0_29, .string a0_30, .int .i64 a0_31] 108 (0, 0)) (by (with_reducible repeat (first | refine blk_drewN ?_ _ | refine blk_drew ?_ | refine blk_alloc ?_ _)); exact BK1088.out) hb); have n1_ := Aside0.mk (below_step (by repeat (first | (with_reducible first | exact HB.out | apply below_alloc | apply pw_below_drewN | apply below_drew1 | refine below_set ?_ GE1088.out) | exact HB.out)) hb); clear BK1088; clear HB; have BK1088 := n0_; have HB := n1_; clear n0_ n1_; (try clear hb); (try clear hb2); (try clear hk); (try clear hi)))
        go_ret2
        exact ⟨by first | rfl | (simp [errW_none, errW_some] <;> rfl) | (simp [*, errW_none, errW_some] <;> rfl), by repeat (first | (with_reducible first | exact HB.out | apply below_alloc | apply pw_below_drewN | apply below_drew1 | refine below_set ?_ GE1088.out) | exact HB.out)⟩
    · rw [if_neg c4] at H
      exact absurd H (by simp)
  · rw [if_neg c3] at H
    exact absurd H (by simp)
def impl_gapLine_fits.f (k : Nat) (a0_0 a0_1 a0_2 a0_3 a0_4 a0_5 a0_6 a0_7 a0_8 a0_9 a0_10 a0_11 a0_12 a0_13 a0_14 a0_15 a0_16 a0_17 a0_18 a0_19 a0_20 a0_21 a0_22 a0_23 a0_24 a0_25 a0_26 a0_27 : Int) (l0_28 : List (S137)) (a0_29 : ByteArray) (a0_30 : ByteArray) (a0_31 : Int) (a1 : ByteArray) (a2 : Int) : Option (Bool) := (impl_gapLine_differs.f k a0_0 a0_1 a0_2 a0_3 a0_4 a0_5 a0_6 a0_7 a0_8 a0_9 a0_10 a0_11 a0_12 a0_13 a0_14 a0_15 a0_16 a0_17 a0_18 a0_19 a0_20 a0_21 a0_22 a0_23 a0_24 a0_25 a0_26 a0_27 l0_28 a0_29 a0_30 a0_31 a1).bind fun bt1092 => (if bt1092.2 = true then (some (decide (bt1092.1 ≤ a2))) else (some false))
theorem impl_gapLine_fits.mono : ∀ a0 a1 a2 a3 a4 a5 a6 a7 a8 a9 a10 a11 a12 a13 a14 a15 a16 a17 a18 a19 a20 a21 a22 a23 a24 a25 a26 a27 a28 a29 a30 a31 a32 a33 k, LeO (impl_gapLine_fits.f k a0 a1 a2 a3 a4 a5 a6 a7 a8 a9 a10 a11 a12 a13 a14 a15 a16 a17 a18 a19 a20 a21 a22 a23 a24 a25 a26 a27 a28 a29 a30 a31 a32 a33) (impl_gapLine_fits.f (k + 1) a0 a1 a2 a3 a4 a5 a6 a7 a8 a9 a10 a11 a12 a13 a14 a15 a16 a17 a18 a19 a20 a21 a22 a23 a24 a25 a26 a27 a28 a29 a30 a31 a32 a33) := by
  intro a0 a1 a2 a3 a4 a5 a6 a7 a8 a9 a10 a11 a12 a13 a14 a15 a16 a17 a18 a19 a20 a21 a22 a23 a24 a25 a26 a27 a28 a29 a30 a31 a32 a33 k
  unfold impl_gapLine_fits.f
  repeat' first
      | (with_reducible exact impl_gapLine_differs.mono _ _ _ _ _ _ _ _ _ _ _ _ _ _ _ _ _ _ _ _ _ _ _ _ _ _ _ _ _ _ _ _ _ _)
      | (with_reducible exact LeO.refl _)
      | (with_reducible exact LeO.none _)
      | (with_reducible refine LeO.ite ?_ ?_)
      | (with_reducible refine LeO.bind ?_ (fun _ => ?_))
      | exact impl_gapLine_differs.mono _ _ _ _ _ _ _ _ _ _ _ _ _ _ _ _ _ _ _ _ _ _ _ _ _ _ _ _ _ _ _ _ _ _
      | exact LeO.none _
      | refine LeO.ite ?_ ?_
      | refine LeO.bind ?_ (fun _ => ?_)
set_option maxHeartbeats 8000000 in
set_option maxRecDepth 100000 in
theorem impl_gapLine_fits.calls (k : Nat) (a0_0 a0_1 a0_2 a0_3 a0_4 a0_5 a0_6 a0_7 a0_8 a0_9 a0_10 a0_11 a0_12 a0_13 a0_14 a0_15 a0_16 a0_17 a0_18 a0_19 a0_20 a0_21 a0_22 a0_23 a0_24 a0_25 a0_26 a0_27 : Int) (A0_28 : Option Addr) (c0_28 : Nat) (l0_28 : List (S137)) (a0_29 : ByteArray) (a0_30 : ByteArray) (a0_31 : Int) (a1 : ByteArray) (a2 : Int) (r : Bool) (w : World) (hr0_28 : Kd.C k137 w A0_28 l0_28.length l0_28) (hc0_28 : l0_28.length ≤ c0_28) (hG : GlobM w) (h : impl_gapLine_fits.f k a0_0 a0_1 a0_2 a0_3 a0_4 a0_5 a0_6 a0_7 a0_8 a0_9 a0_10 a0_11 a0_12 a0_13 a0_14 a0_15 a0_16 a0_17 a0_18 a0_19 a0_20 a0_21 a0_22 a0_23 a0_24 a0_25 a0_26 a0_27 l0_28 a0_29 a0_30 a0_31 a1 a2 = some r) :
    Calls Tryd.prog 91 #[.agg #[.int .i8 a0_0, .int .i8 a0_1, .int .i8 a0_2, .int .i8 a0_3, .int .i8 a0_4, .int .i8 a0_5, .int .i8 a0_6, .int .i8 a0_7, .int .i8 a0_8, .int .i8 a0_9, .int .i8 a0_10, .int .i8 a0_11, .int .i8 a0_12, .int .i8 a0_13, .int .i8 a0_14, .int .i8 a0_15, .int .i8 a0_16, .int .i8 a0_17, .int .i8 a0_18, .int .i8 a0_19, .int .i8 a0_20, .int .i8 a0_21, .int .i8 a0_22, .int .i8 a0_23, .int .i8 a0_24, .int .i8 a0_25, .int .i8 a0_26, .int .i8 a0_27, .slice A0_28 l0_28.length c0_28, .string a0_29, .string a0_30, .int .i64 a0_31], .string a1, .int .i64 a2] w fun e w' => e = .returned (.bool r) ∧ Below w.heap.size w w' := by
  have HG := Aside0.mk hG
  clear hG
  have hu108 := Tryd.underlying108
  have HR0_28 := Aside0.mk hr0_28
  have HC0_28 := Aside0.mk hc0_28
  clear hr0_28 hc0_28
  have HB := Aside0.mk (Below.refl w.heap.size w)
  have H : ((impl_gapLine_differs.f k a0_0 a0_1 a0_2 a0_3 a0_4 a0_5 a0_6 a0_7 a0_8 a0_9 a0_10 a0_11 a0_12 a0_13 a0_14 a0_15 a0_16 a0_17 a0_18 a0_19 a0_20 a0_21 a0_22 a0_23 a0_24 a0_25 a0_26 a0_27 l0_28 a0_29 a0_30 a0_31 a1).bind fun bt1092 => (if bt1092.2 = true then (some (decide (bt1092.1 ≤ a2))) else (some false))) = some r := h
  clear h
  replace H := Option.bind_eq_some_iff.mp H
  obtain ⟨⟨t1092, t1093⟩, A40, H⟩ := H
  replace H : (if t1093 = true then (some (decide (t1092 ≤ a2))) else (some false)) = some r := H
  have A4 := Aside0.mk A40
  clear A40
  by_cases c5 : t1093 = true
  · subst c5
    have H1 : (some (decide (t1092 ≤ a2))) = some r := by rw [if_pos rfl] at H; exact H
    clear H
    have H := H1
    clear H1
    obtain rfl := Option.some.inj H
    go_enter Tryd.func91, Tryd.ntmps91
    go_wp2_with (first | ((with_reducible refine gate_dst (N := 3) rfl ?_); refine box_event ?hg (N := 3) ?hd (cs := #[.int .i8 a0_0, .int .i8 a0_1, .int .i8 a0_2, .int .i8 a0_3, .int .i8 a0_4, .int .i8 a0_5, .int .i8 a0_6, .int .i8 a0_7, .int .i8 a0_8, .int .i8 a0_9, .int .i8 a0_10, .int .i8 a0_11, .int .i8 a0_12, .int .i8 a0_13, .int .i8 a0_14, .int .i8 a0_15, .int .i8 a0_16, .int .i8 a0_17, .int .i8 a0_18, .int .i8 a0_19, .int .i8 a0_20, .int .i8 a0_21, .int .i8 a0_22, .int .i8 a0_23, .int .i8 a0_24, .int .i8 a0_25, .int .i8 a0_26, .int .i8 a0_27, .slice A0_28 l0_28.length c0_28, .string a0_29, .string a0_30, .int .i64 a0_31]) (t := 108) ?hr ?_; (case hd => rfl); (case hg => rfl); (case hr => first | (go_simp; done) | (go_simp; rfl)); intro gb1091 hg w6 hbox hb; have n0_ := Aside0.mk (below_step (by repeat (first | (with_reducible first | exact HB.out | apply below_alloc | apply pw_below_drewN | apply below_drew1) | exact HB.out)) hb); have n1_ := Aside0.mk (hbox); have n2_ := Aside0.mk ((by rw [hg]; exact (below_size (by repeat (first | (with_reducible first | exact HB.out | apply below_alloc | apply pw_below_drewN | apply below_drew1) | exact HB.out))) : w.heap.size ≤ gb1091)); have n3_ := Aside0.mk ((by rw [hg]; exact (below_size (by repeat (first | (with_reducible first | exact HB.out | apply below_alloc | apply pw_below_drewN | apply below_drew1) | exact HB.out))) : w.heap.size ≤ gb1091)); clear HB; have HB := n0_; have BK1091 := n1_; have GW1091 := n2_; have GE1091 := n3_; clear n0_ n1_ n2_ n3_; clear hb hbox hg) | ((with_reducible refine gate_dst (N := 10) rfl ?_); refine wpList_load_mid rfl 108 (.tmp 3) rfl gb1091 0 rfl [.int .i8 a0_0, .int .i8 a0_1, .int .i8 a0_2, .int .i8 a0_3, .int .i8 a0_4, .int .i8 a0_5, .int .i8 a0_6, .int .i8 a0_7, .int .i8 a0_8, .int .i8 a0_9, .int .i8 a0_10, .int .i8 a0_11, .int .i8 a0_12, .int .i8 a0_13, .int .i8 a0_14, .int .i8 a0_15, .int .i8 a0_16, .int .i8 a0_17, .int .i8 a0_18, .int .i8 a0_19, .int .i8 a0_20, .int .i8 a0_21, .int .i8 a0_22, .int .i8 a0_23, .int .i8 a0_24, .int .i8 a0_25, .int .i8 a0_26, .int .i8 a0_27, .slice A0_28 l0_28.length c0_28, .string a0_29, .string a0_30, .int .i64 a0_31] _ (range_partx_ [] [.int .i8 a0_0, .int .i8 a0_1, .int .i8 a0_2, .int .i8 a0_3, .int .i8 a0_4, .int .i8 a0_5, .int .i8 a0_6, .int .i8 a0_7, .int .i8 a0_8, .int .i8 a0_9, .int .i8 a0_10, .int .i8 a0_11, .int .i8 a0_12, .int .i8 a0_13, .int .i8 a0_14, .int .i8 a0_15, .int .i8 a0_16, .int .i8 a0_17, .int .i8 a0_18, .int .i8 a0_19, .int .i8 a0_20, .int .i8 a0_21, .int .i8 a0_22, .int .i8 a0_23, .int .i8 a0_24, .int .i8 a0_25, .int .i8 a0_26, .int .i8 a0_27, .slice A0_28 l0_28.length c0_28, .string a0_29, .string a0_30, .int .i64 a0_31] [] 0 rfl (by (with_reducible repeat (first | refine blk_drewN ?_ _ | refine blk_drew ?_ | refine blk_alloc ?_ _)); exact BK1091.out)) Tryd.underlying108 rfl (by exact (show (Tryd.prog.info? 108).map (·.size) = some 32 by kernel_rfl)) ?_) | ((with_reducible refine gate_callee (f := 92) rfl ?_); refine goesL_ (some 12) rfl rfl Tryd.func92 (by kernel_rfl) rfl #[.agg #[.int .i8 a0_0, .int .i8 a0_1, .int .i8 a0_2, .int .i8 a0_3, .int .i8 a0_4, .int .i8 a0_5, .int .i8 a0_6, .int .i8 a0_7, .int .i8 a0_8, .int .i8 a0_9, .int .i8 a0_10, .int .i8 a0_11, .int .i8 a0_12, .int .i8 a0_13, .int .i8 a0_14, .int .i8 a0_15, .int .i8 a0_16, .int .i8 a0_17, .int .i8 a0_18, .int .i8 a0_19, .int .i8 a0_20, .int .i8 a0_21, .int .i8 a0_22, .int .i8 a0_23, .int .i8 a0_24, .int .i8 a0_25, .int .i8 a0_26, .int .i8 a0_27, .slice A0_28 l0_28.length c0_28, .string a0_29, .string a0_30, .int .i64 a0_31], .string a1] rfl (by (try simp only [List.map_toArray, List.map_cons, List.map_nil]); first | done | rfl | (simp only [List.length_drop, List.length_take]; rfl)) ?_; (with_reducible refine (impl_gapLine_differs.calls k a0_0 a0_1 a0_2 a0_3 a0_4 a0_5 a0_6 a0_7 a0_8 a0_9 a0_10 a0_11 a0_12 a0_13 a0_14 a0_15 a0_16 a0_17 a0_18 a0_19 a0_20 a0_21 a0_22 a0_23 a0_24 a0_25 a0_26 a0_27 _ _ l0_28 a0_29 a0_30 a0_31 a1 t1092 true _ ?side1 ?side2 ?sideG A4.out).mono ?_); (case sideG => first | exact HG.out.below (by repeat (first | (with_reducible first | exact HB.out | apply below_alloc | apply pw_below_drewN | apply below_drew1) | exact HB.out)) | exact (HG.out.below (by repeat (first | (with_reducible first | exact HB.out | apply below_alloc | apply pw_below_drewN | apply below_drew1) | exact HB.out))).toM); (case side1 => repeat (first | exact (Kd.C_below HR0_28.out HB.out) | (with_reducible refine Kd.C_alloc ?_ _) | (with_reducible refine Kd.C_drewN ?_ _) | (with_reducible refine Kd.C_drew ?_))); (case side2 => exact HC0_28.out); rintro e w7 ⟨rfl, hb⟩; refine ⟨_, rfl, ?_⟩; have n0_ := Aside0.mk (blk_below (g := gb1091) (o := .cells #[.int .i8 a0_0, .int .i8 a0_1, .int .i8 a0_2, .int .i8 a0_3, .int .i8 a0_4, .int .i8 a0_5, .int .i8 a0_6, .int .i8 a0_7, .int .i8 a0_8, .int .i8 a0_9, .int .i8 a0_10, .int .i8 a0_11, .int .i8 a0_12, .int .i8 a0_13, .int .i8 a0_14, .int .i8 a0_15, .int .i8 a0_16, .int .i8 a0_17, .int .i8 a0_18, .int .i8 a0_19, .int .i8 a0_20, .int .i8 a0_21, .int .i8 a0_22, .int .i8 a0_23, .int .i8 a0_24, .int .i8 a0_25, .int .i8 a0_26, .int .i8 a0_27, .slice A0_28 l0_28.length c0_28, .string a0_29, .string a0_30, .int .i64 a0_31] 108 (0, 0)) (by (with_reducible repeat (first | refine blk_drewN ?_ _ | refine blk_drew ?_ | refine blk_alloc ?_ _)); exact BK1091.out) hb); have n1_ := Aside0.mk (below_step (by repeat (first | (with_reducible first | exact HB.out | apply below_alloc | apply pw_below_drewN | apply below_drew1 | refine below_set ?_ GE1091.out) | exact HB.out)) hb); clear BK1091; clear HB; have BK1091 := n0_; have HB := n1_; clear n0_ n1_; (try clear hb); (try clear hb2); (try clear hk); (try clear hi)))
    go_ret
    exact ⟨by first | rfl | (simp [errW_none, errW_some] <;> rfl) | (simp [*, errW_none, errW_some] <;> rfl), by repeat (first | (with_reducible first | exact HB.out | apply below_alloc | apply pw_below_drewN | apply below_drew1 | refine below_set ?_ GE1091.out) | exact HB.out)⟩
  · replace c5 := Bool.eq_false_iff.mpr c5
    subst c5
    have H1 : (some false) = some r := by rw [if_neg (show ¬ (false = true) by decide)] at H; exact H
    clear H
    have H := H1
    clear H1
    obtain rfl := Option.some.inj H
    go_enter Tryd.func91, Tryd.ntmps91
    go_wp2_with (first | ((with_reducible refine gate_dst (N := 3) rfl ?_); refine box_event ?hg (N := 3) ?hd (cs := #[.int .i8 a0_0, .int .i8 a0_1, .int .i8 a0_2, .int .i8 a0_3, .int .i8 a0_4, .int .i8 a0_5, .int .i8 a0_6, .int .i8 a0_7, .int .i8 a0_8, .int .i8 a0_9, .int .i8 a0_10, .int .i8 a0_11, .int .i8 a0_12, .int .i8 a0_13, .int .i8 a0_14, .int .i8 a0_15, .int .i8 a0_16, .int .i8 a0_17, .int .i8 a0_18, .int .i8 a0_19, .int .i8 a0_20, .int .i8 a0_21, .int .i8 a0_22, .int .i8 a0_23, .int .i8 a0_24, .int .i8 a0_25, .int .i8 a0_26, .int .i8 a0_27, .slice A0_28 l0_28.length c0_28, .string a0_29, .string a0_30, .int .i64 a0_31]) (t := 108) ?hr ?_; (case hd => rfl); (case hg => rfl); (case hr => first | (go_simp; done) | (go_simp; rfl)); intro gb1091 hg w8 hbox hb; have n0_ := Aside0.mk (below_step (by repeat (first | (with_reducible first | exact HB.out | apply below_alloc | apply pw_below_drewN | apply below_drew1) | exact HB.out)) hb); have n1_ := Aside0.mk (hbox); have n2_ := Aside0.mk ((by rw [hg]; exact (below_size (by repeat (first | (with_reducible first | exact HB.out | apply below_alloc | apply pw_below_drewN | apply below_drew1) | exact HB.out))) : w.heap.size ≤ gb1091)); have n3_ := Aside0.mk ((by rw [hg]; exact (below_size (by repeat (first | (with_reducible first | exact HB.out | apply below_alloc | apply pw_below_drewN | apply below_drew1) | exact HB.out))) : w.heap.size ≤ gb1091)); clear HB; have HB := n0_; have BK1091 := n1_; have GW1091 := n2_; have GE1091 := n3_; clear n0_ n1_ n2_ n3_; clear hb hbox hg) | ((with_reducible refine gate_dst (N := 10) rfl ?_); refine wpList_load_mid rfl 108 (.tmp 3) rfl gb1091 0 rfl [.int .i8 a0_0, .int .i8 a0_1, .int .i8 a0_2, .int .i8 a0_3, .int .i8 a0_4, .int .i8 a0_5, .int .i8 a0_6, .int .i8 a0_7, .int .i8 a0_8, .int .i8 a0_9, .int .i8 a0_10, .int .i8 a0_11, .int .i8 a0_12, .int .i8 a0_13, .int .i8 a0_14, .int .i8 a0_15, .int .i8 a0_16, .int .i8 a0_17, .int .i8 a0_18, .int .i8 a0_19, .int .i8 a0_20, .int .i8 a0_21, .int .i8 a0_22, .int .i8 a0_23, .int .i8 a0_24, .int .i8 a0_25, .int .i8 a0_26, .int .i8 a0_27, .slice A0_28 l0_28.length c0_28, .string a0_29, .string a0_30, .int .i64 a0_31] _ (range_partx_ [] [.int .i8 a0_0, .int .i8 a0_1, .int .i8 a0_2, .int .i8 a0_3, .int .i8 a0_4, .int .i8 a0_5, .int .i8 a0_6, .int .i8 a0_7, .int .i8 a0_8, .int .i8 a0_9, .int .i8 a0_10, .int .i8 a0_11, .int .i8 a0_12, .int .i8 a0_13, .int .i8 a0_14, .int .i8 a0_15, .int .i8 a0_16, .int .i8 a0_17, .int .i8 a0_18, .int .i8 a0_19, .int .i8 a0_20, .int .i8 a0_21, .int .i8 a0_22, .int .i8 a0_23, .int .i8 a0_24, .int .i8 a0_25, .int .i8 a0_26, .int .i8 a0_27, .slice A0_28 l0_28.length c0_28, .string a0_29, .string a0_30, .int .i64 a0_31] [] 0 rfl (by (with_reducible repeat (first | refine blk_drewN ?_ _ | refine blk_drew ?_ | refine blk_alloc ?_ _)); exact BK1091.out)) Tryd.underlying108 rfl (by exact (show (Tryd.prog.info? 108).map (·.size) = some 32 by kernel_rfl)) ?_) | ((with_reducible refine gate_callee (f := 92) rfl ?_); refine goesL_ (some 12) rfl rfl Tryd.func92 (by kernel_rfl) rfl #[.agg #[.int .i8 a0_0, .int .i8 a0_1, .int .i8 a0_2, .int .i8 a0_3, .int .i8 a0_4, .int .i8 a0_5, .int .i8 a0_6, .int .i8 a0_7, .int .i8 a0_8, .int .i8 a0_9, .int .i8 a0_10, .int .i8 a0_11, .int .i8 a0_12, .int .i8 a0_13, .int .i8 a0_14, .int .i8 a0_15, .int .i8 a0_16, .int .i8 a0_17, .int .i8 a0_18, .int .i8 a0_19, .int .i8 a0_20, .int .i8 a0_21, .int .i8 a0_22, .int .i8 a0_23, .int .i8 a0_24, .int .i8 a0_25, .int .i8 a0_26, .int .i8 a0_27, .slice A0_28 l0_28.length c0_28, .string a0_29, .string a0_30, .int .i64 a0_31], .string a1] rfl (by (try simp only [List.map_toArray, List.map_cons, List.map_nil]); first | done | rfl | (simp only [List.length_drop, List.length_take]; rfl)) ?_; (with_reducible refine (impl_gapLine_differs.calls k a0_0 a0_1 a0_2 a0_3 a0_4 a0_5 a0_6 a0_7 a0_8 a0_9 a0_10 a0_11 a0_12 a0_13 a0_14 a0_15 a0_16 a0_17 a0_18 a0_19 a0_20 a0_21 a0_22 a0_23 a0_24 a0_25 a0_26 a0_27 _ _ l0_28 a0_29 a0_30 a0_31 a1 t1092 false _ ?side1 ?side2 ?sideG A4.out).mono ?_); (case sideG => first | exact HG.out.below (by repeat (first | (with_reducible first | exact HB.out | apply below_alloc | apply pw_below_drewN | apply below_drew1) | exact HB.out)) | exact (HG.out.below (by repeat (first | (with_reducible first | exact HB.out | apply below_alloc | apply pw_below_drewN | apply below_drew1) | exact HB.out))).toM); (case side1 => repeat (first | exact (Kd.C_below HR0_28.out HB.out) | (with_reducible refine Kd.C_alloc ?_ _) | (with_reducible refine Kd.C_drewN ?_ _) | (with_reducible refine Kd.C_drew ?_))); (case side2 => exact HC0_28.out); rintro e w9 ⟨rfl, hb⟩; refine ⟨_, rfl, ?_⟩; have n0_ := Aside0.mk (blk_below (g := gb1091) (o := .cells #[.int .i8 a0_0, .int .i8 a0_1, .int .i8 a0_2, .int .i8 a0_3, .int .i8 a0_4, .int .i8 a0_5, .int .i8 a0_6, .int .i8 a0_7, .int .i8 a0_8, .int .i8 a0_9, .int .i8 a0_10, .int .i8 a0_11, .int .i8 a0_12, .int .i8 a0_13, .int .i8 a0_14, .int .i8 a0_15, .int .i8 a0_16, .int .i8 a0_17, .int .i8 a0_18, .int .i8 a0_19, .int .i8 a0_20, .int .i8 a0_21, .int .i8 a0_22, .int .i8 a0_23, .int .i8 a0_24, .int .i8 a0_25, .int .i8 a0_26, .int .i8 a0_27, .slice A0_28 l0_28.length c0_28, .string a0_29, .string a0_30, .int .i64 a0_31] 108 (0, 0)) (by (with_reducible repeat (first | refine blk_drewN ?_ _ | refine blk_drew ?_ | refine blk_alloc ?_ _)); exact BK1091.out) hb); have n1_ := Aside0.mk (below_step (by repeat (first | (with_reducible first | exact HB.out | apply below_alloc | apply pw_below_drewN | apply below_drew1 | refine below_set ?_ GE1091.out) | exact HB.out)) hb); clear BK1091; clear HB; have BK1091 := n0_; have HB := n1_; clear n0_ n1_; (try clear hb); (try clear hb2); (try clear hk); (try clear hi)))
    go_ret
    exact ⟨by first | rfl | (simp [errW_none, errW_some] <;> rfl) | (simp [*, errW_none, errW_some] <;> rfl), by repeat (first | (with_reducible first | exact HB.out | apply below_alloc | apply pw_below_drewN | apply below_drew1 | refine below_set ?_ GE1091.out) | exact HB.out)⟩
def impl_FillLetter.l0 : Nat → Int → List Int → Int → Int → Int → Int → Int → Int → Int → Int → Int → Int → Int → Int → Int → Int → Int → Int → Int → Int → Int → Int → Int → Int → Int → Int → Int → Int → Int → Int → Int → List (S137) → ByteArray → ByteArray → Int → Option (ByteArray × Int)
  | 0, _, _, _, _, _, _, _, _, _, _, _, _, _, _, _, _, _, _, _, _, _, _, _, _, _, _, _, _, _, _, _, _, _, _, _ => none
  | k + 1, x4, x14, x15, x1096000, x1096001, x1096002, x1096003, x1096004, x1096005, x1096006, x1096007, x1096008, x1096009, x1096010, x1096011, x1096012, x1096013, x1096014, x1096015, x1096016, x1096017, x1096018, x1096019, x1096020, x1096021, x1096022, x1096023, x1096024, x1096025, x1096026, x1096027, x1096028, x1096029, x1096030, x1096031 => if x15 ≤ 90 then ((impl_gapLine_fits.f k x1096000 x1096001 x1096002 x1096003 x1096004 x1096005 x1096006 x1096007 x1096008 x1096009 x1096010 x1096011 x1096012 x1096013 x1096014 x1096015 x1096016 x1096017 x1096018 x1096019 x1096020 x1096021 x1096022 x1096023 x1096024 x1096025 x1096026 x1096027 x1096028 x1096029 x1096030 x1096031 (strOfNums (([x15] : List Int))) x4).bind fun t1103 => (if t1103 = true then (if x14.length < 140737488355328 then (impl_FillLetter.l0 k x4 (x14 ++ [x15]) ((x15 + 1) % 256) x1096000 x1096001 x1096002 x1096003 x1096004 x1096005 x1096006 x1096007 x1096008 x1096009 x1096010 x1096011 x1096012 x1096013 x1096014 x1096015 x1096016 x1096017 x1096018 x1096019 x1096020 x1096021 x1096022 x1096023 x1096024 x1096025 x1096026 x1096027 x1096028 x1096029 x1096030 x1096031) else (none)) else (impl_FillLetter.l0 k x4 x14 ((x15 + 1) % 256) x1096000 x1096001 x1096002 x1096003 x1096004 x1096005 x1096006 x1096007 x1096008 x1096009 x1096010 x1096011 x1096012 x1096013 x1096014 x1096015 x1096016 x1096017 x1096018 x1096019 x1096020 x1096021 x1096022 x1096023 x1096024 x1096025 x1096026 x1096027 x1096028 x1096029 x1096030 x1096031))) else (some (strOfNums x14, 0))
def impl_FillLetter.f (k : Nat) (a0_0 a0_1 a0_2 a0_3 a0_4 a0_5 a0_6 a0_7 a0_8 a0_9 a0_10 a0_11 a0_12 a0_13 a0_14 a0_15 a0_16 a0_17 a0_18 a0_19 a0_20 a0_21 a0_22 a0_23 a0_24 a0_25 a0_26 a0_27 : Int) (l0_28 : List (S137)) (a1 : ByteArray) (a2 : ByteArray) (a3 : Int) (a4 : Int) : Option (ByteArray × Int) := (impl_gapCode.f k a0_0 a0_1 a0_2 a0_3 a0_4 a0_5 a0_6 a0_7 a0_8 a0_9 a0_10 a0_11 a0_12 a0_13 a0_14 a0_15 a0_16 a0_17 a0_18 a0_19 a0_20 a0_21 a0_22 a0_23 a0_24 a0_25 a0_26 a0_27 l0_28 a1 a2 a3 ([] : List ByteArray) a4).bind fun t1096 => (if t1096 = 0 then (impl_FillLetter.l0 k a4 (([] : List Int)) 65 a0_0 a0_1 a0_2 a0_3 a0_4 a0_5 a0_6 a0_7 a0_8 a0_9 a0_10 a0_11 a0_12 a0_13 a0_14 a0_15 a0_16 a0_17 a0_18 a0_19 a0_20 a0_21 a0_22 a0_23 a0_24 a0_25 a0_26 a0_27 l0_28 a1 a2 a3) else (some ((⟨#[]⟩ : ByteArray), t1096)))
theorem impl_FillLetter.mono_l : ∀ k, (∀ y0 y1 y2 y3 y4 y5 y6 y7 y8 y9 y10 y11 y12 y13 y14 y15 y16 y17 y18 y19 y20 y21 y22 y23 y24 y25 y26 y27 y28 y29 y30 y31 y32 y33 y34, LeO (impl_FillLetter.l0 k y0 y1 y2 y3 y4 y5 y6 y7 y8 y9 y10 y11 y12 y13 y14 y15 y16 y17 y18 y19 y20 y21 y22 y23 y24 y25 y26 y27 y28 y29 y30 y31 y32 y33 y34) (impl_FillLetter.l0 (k + 1) y0 y1 y2 y3 y4 y5 y6 y7 y8 y9 y10 y11 y12 y13 y14 y15 y16 y17 y18 y19 y20 y21 y22 y23 y24 y25 y26 y27 y28 y29 y30 y31 y32 y33 y34))
  | 0 => fun _ _ _ _ _ _ _ _ _ _ _ _ _ _ _ _ _ _ _ _ _ _ _ _ _ _ _ _ _ _ _ _ _ _ _ r h => by simp [impl_FillLetter.l0] at h
  | k + 1 => by
    have ih0 := impl_FillLetter.mono_l k
    · intro y0 y1 y2 y3 y4 y5 y6 y7 y8 y9 y10 y11 y12 y13 y14 y15 y16 y17 y18 y19 y20 y21 y22 y23 y24 y25 y26 y27 y28 y29 y30 y31 y32 y33 y34
      unfold impl_FillLetter.l0
      repeat' first
      | (with_reducible exact ih0 _ _ _ _ _ _ _ _ _ _ _ _ _ _ _ _ _ _ _ _ _ _ _ _ _ _ _ _ _ _ _ _ _ _ _)
      | (with_reducible exact impl_gapCode.mono _ _ _ _ _ _ _ _ _ _ _ _ _ _ _ _ _ _ _ _ _ _ _ _ _ _ _ _ _ _ _ _ _ _ _)
      | (with_reducible exact impl_gapLine_fits.mono _ _ _ _ _ _ _ _ _ _ _ _ _ _ _ _ _ _ _ _ _ _ _ _ _ _ _ _ _ _ _ _ _ _ _)
      | (with_reducible exact LeO.refl _)
      | (with_reducible exact LeO.none _)
      | (with_reducible refine LeO.ite ?_ ?_)
      | (with_reducible refine LeO.bind ?_ (fun _ => ?_))
      | exact ih0 _ _ _ _ _ _ _ _ _ _ _ _ _ _ _ _ _ _ _ _ _ _ _ _ _ _ _ _ _ _ _ _ _ _ _
      | exact impl_gapCode.mono _ _ _ _ _ _ _ _ _ _ _ _ _ _ _ _ _ _ _ _ _ _ _ _ _ _ _ _ _ _ _ _ _ _ _
      | exact impl_gapLine_fits.mono _ _ _ _ _ _ _ _ _ _ _ _ _ _ _ _ _ _ _ _ _ _ _ _ _ _ _ _ _ _ _ _ _ _ _
      | exact LeO.none _
      | refine LeO.ite ?_ ?_
      | refine LeO.bind ?_ (fun _ => ?_)
theorem impl_FillLetter.mono : ∀ a0 a1 a2 a3 a4 a5 a6 a7 a8 a9 a10 a11 a12 a13 a14 a15 a16 a17 a18 a19 a20 a21 a22 a23 a24 a25 a26 a27 a28 a29 a30 a31 a32 k, LeO (impl_FillLetter.f k a0 a1 a2 a3 a4 a5 a6 a7 a8 a9 a10 a11 a12 a13 a14 a15 a16 a17 a18 a19 a20 a21 a22 a23 a24 a25 a26 a27 a28 a29 a30 a31 a32) (impl_FillLetter.f (k + 1) a0 a1 a2 a3 a4 a5 a6 a7 a8 a9 a10 a11 a12 a13 a14 a15 a16 a17 a18 a19 a20 a21 a22 a23 a24 a25 a26 a27 a28 a29 a30 a31 a32) := by
  intro a0 a1 a2 a3 a4 a5 a6 a7 a8 a9 a10 a11 a12 a13 a14 a15 a16 a17 a18 a19 a20 a21 a22 a23 a24 a25 a26 a27 a28 a29 a30 a31 a32 k
  have ih0 := impl_FillLetter.mono_l k
  unfold impl_FillLetter.f
  repeat' first
      | (with_reducible exact ih0 _ _ _ _ _ _ _ _ _ _ _ _ _ _ _ _ _ _ _ _ _ _ _ _ _ _ _ _ _ _ _ _ _ _ _)
      | (with_reducible exact impl_gapCode.mono _ _ _ _ _ _ _ _ _ _ _ _ _ _ _ _ _ _ _ _ _ _ _ _ _ _ _ _ _ _ _ _ _ _ _)
      | (with_reducible exact impl_gapLine_fits.mono _ _ _ _ _ _ _ _ _ _ _ _ _ _ _ _ _ _ _ _ _ _ _ _ _ _ _ _ _ _ _ _ _ _ _)
      | (with_reducible exact LeO.refl _)
      | (with_reducible exact LeO.none _)
      | (with_reducible refine LeO.ite ?_ ?_)
      | (with_reducible refine LeO.bind ?_ (fun _ => ?_))
      | exact ih0 _ _ _ _ _ _ _ _ _ _ _ _ _ _ _ _ _ _ _ _ _ _ _ _ _ _ _ _ _ _ _ _ _ _ _
      | exact impl_gapCode.mono _ _ _ _ _ _ _ _ _ _ _ _ _ _ _ _ _ _ _ _ _ _ _ _ _ _ _ _ _ _ _ _ _ _ _
      | exact impl_gapLine_fits.mono _ _ _ _ _ _ _ _ _ _ _ _ _ _ _ _ _ _ _ _ _ _ _ _ _ _ _ _ _ _ _ _ _ _ _
      | exact LeO.none _
      | refine LeO.ite ?_ ?_
      | refine LeO.bind ?_ (fun _ => ?_)
set_option maxHeartbeats 8000000 in
set_option maxRecDepth 100000 in
theorem impl_FillLetter.calls (k : Nat) (a0_0 a0_1 a0_2 a0_3 a0_4 a0_5 a0_6 a0_7 a0_8 a0_9 a0_10 a0_11 a0_12 a0_13 a0_14 a0_15 a0_16 a0_17 a0_18 a0_19 a0_20 a0_21 a0_22 a0_23 a0_24 a0_25 a0_26 a0_27 : Int) (A0_28 : Option Addr) (c0_28 : Nat) (l0_28 : List (S137)) (a1 : ByteArray) (a2 : ByteArray) (a3 : Int) (a4 : Int) (r1 : ByteArray) (r2 : Int) (w : World) (hr0_28 : Kd.C k137 w A0_28 l0_28.length l0_28) (hc0_28 : l0_28.length ≤ c0_28) (hG : GlobM w) (h : impl_FillLetter.f k a0_0 a0_1 a0_2 a0_3 a0_4 a0_5 a0_6 a0_7 a0_8 a0_9 a0_10 a0_11 a0_12 a0_13 a0_14 a0_15 a0_16 a0_17 a0_18 a0_19 a0_20 a0_21 a0_22 a0_23 a0_24 a0_25 a0_26 a0_27 l0_28 a1 a2 a3 a4 = some (r1, r2)) :
    Calls Tryd.prog 38 #[.agg #[.int .i8 a0_0, .int .i8 a0_1, .int .i8 a0_2, .int .i8 a0_3, .int .i8 a0_4, .int .i8 a0_5, .int .i8 a0_6, .int .i8 a0_7, .int .i8 a0_8, .int .i8 a0_9, .int .i8 a0_10, .int .i8 a0_11, .int .i8 a0_12, .int .i8 a0_13, .int .i8 a0_14, .int .i8 a0_15, .int .i8 a0_16, .int .i8 a0_17, .int .i8 a0_18, .int .i8 a0_19, .int .i8 a0_20, .int .i8 a0_21, .int .i8 a0_22, .int .i8 a0_23, .int .i8 a0_24, .int .i8 a0_25, .int .i8 a0_26, .int .i8 a0_27, .slice A0_28 l0_28.length c0_28], .string a1, .string a2, .int .i64 a3, .int .i64 a4] w fun e w' => e = .returned (.tuple #[.string r1, .int .i64 r2]) ∧ Below w.heap.size w w' := by
  have HG := Aside0.mk hG
  clear hG
  have hu32 := Tryd.underlying32
  have hu108 := Tryd.underlying108
  have HR0_28 := Aside0.mk hr0_28
  have HC0_28 := Aside0.mk hc0_28
  clear hr0_28 hc0_28
  have HB := Aside0.mk (Below.refl w.heap.size w)
  have H : ((impl_gapCode.f k a0_0 a0_1 a0_2 a0_3 a0_4 a0_5 a0_6 a0_7 a0_8 a0_9 a0_10 a0_11 a0_12 a0_13 a0_14 a0_15 a0_16 a0_17 a0_18 a0_19 a0_20 a0_21 a0_22 a0_23 a0_24 a0_25 a0_26 a0_27 l0_28 a1 a2 a3 ([] : List ByteArray) a4).bind fun t1096 => (if t1096 = 0 then (impl_FillLetter.l0 k a4 (([] : List Int)) 65 a0_0 a0_1 a0_2 a0_3 a0_4 a0_5 a0_6 a0_7 a0_8 a0_9 a0_10 a0_11 a0_12 a0_13 a0_14 a0_15 a0_16 a0_17 a0_18 a0_19 a0_20 a0_21 a0_22 a0_23 a0_24 a0_25 a0_26 a0_27 l0_28 a1 a2 a3) else (some ((⟨#[]⟩ : ByteArray), t1096)))) = some (r1, r2) := h
  clear h
  replace H := Option.bind_eq_some_iff.mp H
  obtain ⟨t1096, A60, H⟩ := H
  replace H : (if t1096 = 0 then (impl_FillLetter.l0 k a4 (([] : List Int)) 65 a0_0 a0_1 a0_2 a0_3 a0_4 a0_5 a0_6 a0_7 a0_8 a0_9 a0_10 a0_11 a0_12 a0_13 a0_14 a0_15 a0_16 a0_17 a0_18 a0_19 a0_20 a0_21 a0_22 a0_23 a0_24 a0_25 a0_26 a0_27 l0_28 a1 a2 a3) else (some ((⟨#[]⟩ : ByteArray), t1096))) = some (r1, r2) := H
  have A6 := Aside0.mk A60
  clear A60
  by_cases c7 : t1096 = 0
  · rw [if_pos c7] at H
    have c7b0 : (t1096 == 0) = true := beq_iff_eq.mpr c7
    have c7b1 : (t1096 != 0) = false := bne_eq_false_iff_eq.mpr c7
    clear c7
    obtain ⟨y1097, hy1097⟩ : ∃ y_ : List Int, y_ = (([] : List Int)) := ⟨_, rfl⟩
    replace H : (impl_FillLetter.l0 k a4 y1097 65 a0_0 a0_1 a0_2 a0_3 a0_4 a0_5 a0_6 a0_7 a0_8 a0_9 a0_10 a0_11 a0_12 a0_13 a0_14 a0_15 a0_16 a0_17 a0_18 a0_19 a0_20 a0_21 a0_22 a0_23 a0_24 a0_25 a0_26 a0_27 l0_28 a1 a2 a3) = some (r1, r2) := by first | (rw [hy1097]; with_reducible exact H) | (have H2_ := (Option.bind_some _ _).symm.trans H; rw [hy1097]; with_reducible exact H2_) | (have H2_ := (Option.bind_some _ _).symm.trans H; with_reducible exact H2_) | with_reducible exact H | (rw [hy1097]; exact H) | exact H
    have Ny1097 := Aside0.mk hy1097
    clear hy1097
    have H' := Aside0.mk H
    clear H
    go_enter Tryd.func38, Tryd.ntmps38
    go_wp2_with (first | ((with_reducible refine gate_dst (N := 5) rfl ?_); refine box_event ?hg (N := 5) ?hd (cs := #[.int .i8 a0_0, .int .i8 a0_1, .int .i8 a0_2, .int .i8 a0_3, .int .i8 a0_4, .int .i8 a0_5, .int .i8 a0_6, .int .i8 a0_7, .int .i8 a0_8, .int .i8 a0_9, .int .i8 a0_10, .int .i8 a0_11, .int .i8 a0_12, .int .i8 a0_13, .int .i8 a0_14, .int .i8 a0_15, .int .i8 a0_16, .int .i8 a0_17, .int .i8 a0_18, .int .i8 a0_19, .int .i8 a0_20, .int .i8 a0_21, .int .i8 a0_22, .int .i8 a0_23, .int .i8 a0_24, .int .i8 a0_25, .int .i8 a0_26, .int .i8 a0_27, .slice A0_28 l0_28.length c0_28]) (t := 32) ?hr ?_; (case hd => rfl); (case hg => rfl); (case hr => first | (go_simp; done) | (go_simp; rfl)); intro gb1094 hg w8 hbox hb; have n0_ := Aside0.mk (below_step (by repeat (first | (with_reducible first | exact HB.out | apply below_alloc | apply pw_below_drewN | apply below_drew1) | exact HB.out)) hb); have n1_ := Aside0.mk (hbox); have n2_ := Aside0.mk ((by rw [hg]; exact (below_size (by repeat (first | (with_reducible first | exact HB.out | apply below_alloc | apply pw_below_drewN | apply below_drew1) | exact HB.out))) : w.heap.size ≤ gb1094)); have n3_ := Aside0.mk ((by rw [hg]; exact (below_size (by repeat (first | (with_reducible first | exact HB.out | apply below_alloc | apply pw_below_drewN | apply below_drew1) | exact HB.out))) : w.heap.size ≤ gb1094)); clear HB; have HB := n0_; have BK1094 := n1_; have GW1094 := n2_; have GE1094 := n3_; clear n0_ n1_ n2_ n3_; clear hb hbox hg) | ((with_reducible refine gate_dst (N := 16) rfl ?_); refine wpList_load_mid rfl 32 (.tmp 5) rfl gb1094 0 rfl [.int .i8 a0_0, .int .i8 a0_1, .int .i8 a0_2, .int .i8 a0_3, .int .i8 a0_4, .int .i8 a0_5, .int .i8 a0_6, .int .i8 a0_7, .int .i8 a0_8, .int .i8 a0_9, .int .i8 a0_10, .int .i8 a0_11, .int .i8 a0_12, .int .i8 a0_13, .int .i8 a0_14, .int .i8 a0_15, .int .i8 a0_16, .int .i8 a0_17, .int .i8 a0_18, .int .i8 a0_19, .int .i8 a0_20, .int .i8 a0_21, .int .i8 a0_22, .int .i8 a0_23, .int .i8 a0_24, .int .i8 a0_25, .int .i8 a0_26, .int .i8 a0_27, .slice A0_28 l0_28.length c0_28] _ (range_partx_ [] [.int .i8 a0_0, .int .i8 a0_1, .int .i8 a0_2, .int .i8 a0_3, .int .i8 a0_4, .int .i8 a0_5, .int .i8 a0_6, .int .i8 a0_7, .int .i8 a0_8, .int .i8 a0_9, .int .i8 a0_10, .int .i8 a0_11, .int .i8 a0_12, .int .i8 a0_13, .int .i8 a0_14, .int .i8 a0_15, .int .i8 a0_16, .int .i8 a0_17, .int .i8 a0_18, .int .i8 a0_19, .int .i8 a0_20, .int .i8 a0_21, .int .i8 a0_22, .int .i8 a0_23, .int .i8 a0_24, .int .i8 a0_25, .int .i8 a0_26, .int .i8 a0_27, .slice A0_28 l0_28.length c0_28] [] 0 rfl (by (with_reducible repeat (first | refine blk_drewN ?_ _ | refine blk_drew ?_ | refine blk_alloc ?_ _)); exact BK1094.out)) Tryd.underlying32 rfl (by exact (show (Tryd.prog.info? 32).map (·.size) = some 29 by kernel_rfl)) ?_) | ((with_reducible refine gate_dst (N := 12) rfl ?_); refine box_event ?hg (N := 12) ?hd (cs := #[.int .i8 0, .int .i8 0, .int .i8 0, .int .i8 0, .int .i8 0, .int .i8 0, .int .i8 0, .int .i8 0, .int .i8 0, .int .i8 0, .int .i8 0, .int .i8 0, .int .i8 0, .int .i8 0, .int .i8 0, .int .i8 0, .int .i8 0, .int .i8 0, .int .i8 0, .int .i8 0, .int .i8 0, .int .i8 0, .int .i8 0, .int .i8 0, .int .i8 0, .int .i8 0, .int .i8 0, .int .i8 0, .slice none 0 0, .string (⟨#[]⟩ : ByteArray), .string (⟨#[]⟩ : ByteArray), .int .i64 0]) (t := 108) ?hr ?_; (case hd => rfl); (case hg => rfl); (case hr => first | (go_simp; done) | (go_simp; rfl)); intro gb1095 hg w9 hbox hb; have n0_ := Aside0.mk (blk_below (g := gb1094) (o := .cells #[.int .i8 a0_0, .int .i8 a0_1, .int .i8 a0_2, .int .i8 a0_3, .int .i8 a0_4, .int .i8 a0_5, .int .i8 a0_6, .int .i8 a0_7, .int .i8 a0_8, .int .i8 a0_9, .int .i8 a0_10, .int .i8 a0_11, .int .i8 a0_12, .int .i8 a0_13, .int .i8 a0_14, .int .i8 a0_15, .int .i8 a0_16, .int .i8 a0_17, .int .i8 a0_18, .int .i8 a0_19, .int .i8 a0_20, .int .i8 a0_21, .int .i8 a0_22, .int .i8 a0_23, .int .i8 a0_24, .int .i8 a0_25, .int .i8 a0_26, .int .i8 a0_27, .slice A0_28 l0_28.length c0_28] 32 (0, 0)) (by (with_reducible repeat (first | refine blk_drewN ?_ _ | refine blk_drew ?_ | refine blk_alloc ?_ _)); exact BK1094.out) hb); have n1_ := Aside0.mk (below_step (by repeat (first | (with_reducible first | exact HB.out | apply below_alloc | apply pw_below_drewN | apply below_drew1 | refine below_set ?_ GE1094.out) | exact HB.out)) hb); have n2_ := Aside0.mk (hbox); have n3_ := Aside0.mk ((by rw [hg]; exact (below_size (by repeat (first | (with_reducible first | exact HB.out | apply below_alloc | apply pw_below_drewN | apply below_drew1 | refine below_set ?_ GE1094.out) | exact HB.out))) : w.heap.size ≤ gb1095)); have n4_ := Aside0.mk ((by rw [hg]; exact (below_size (by repeat (first | (with_reducible first | exact HB.out | apply below_alloc | apply pw_below_drewN | apply below_drew1 | refine below_set ?_ GE1094.out) | exact HB.out))) : w.heap.size ≤ gb1095)); have n5_ := Aside0.mk ((by rw [hg]; exact Nat.ne_of_lt (blk_lt (g := gb1094) (o := .cells #[.int .i8 a0_0, .int .i8 a0_1, .int .i8 a0_2, .int .i8 a0_3, .int .i8 a0_4, .int .i8 a0_5, .int .i8 a0_6, .int .i8 a0_7, .int .i8 a0_8, .int .i8 a0_9, .int .i8 a0_10, .int .i8 a0_11, .int .i8 a0_12, .int .i8 a0_13, .int .i8 a0_14, .int .i8 a0_15, .int .i8 a0_16, .int .i8 a0_17, .int .i8 a0_18, .int .i8 a0_19, .int .i8 a0_20, .int .i8 a0_21, .int .i8 a0_22, .int .i8 a0_23, .int .i8 a0_24, .int .i8 a0_25, .int .i8 a0_26, .int .i8 a0_27, .slice A0_28 l0_28.length c0_28] 32 (0, 0)) (by (with_reducible repeat (first | refine blk_drewN ?_ _ | refine blk_drew ?_ | refine blk_alloc ?_ _)); exact BK1094.out)) : gb1094 ≠ gb1095)); have n6_ := Aside0.mk ((by rw [hg]; exact Nat.ne_of_gt (blk_lt (g := gb1094) (o := .cells #[.int .i8 a0_0, .int .i8 a0_1, .int .i8 a0_2, .int .i8 a0_3, .int .i8 a0_4, .int .i8 a0_5, .int .i8 a0_6, .int .i8 a0_7, .int .i8 a0_8, .int .i8 a0_9, .int .i8 a0_10, .int .i8 a0_11, .int .i8 a0_12, .int .i8 a0_13, .int .i8 a0_14, .int .i8 a0_15, .int .i8 a0_16, .int .i8 a0_17, .int .i8 a0_18, .int .i8 a0_19, .int .i8 a0_20, .int .i8 a0_21, .int .i8 a0_22, .int .i8 a0_23, .int .i8 a0_24, .int .i8 a0_25, .int .i8 a0_26, .int .i8 a0_27, .slice A0_28 l0_28.length c0_28] 32 (0, 0)) (by (with_reducible repeat (first | refine blk_drewN ?_ _ | refine blk_drew ?_ | refine blk_alloc ?_ _)); exact BK1094.out)) : gb1095 ≠ gb1094)); clear BK1094; clear HB; have BK1094 := n0_; have HB := n1_; have BK1095 := n2_; have GW1095 := n3_; have GE1095 := n4_; have NB1094_1095 := n5_; have NB1095_1094 := n6_; clear n0_ n1_ n2_ n3_ n4_ n5_ n6_; clear hb hbox hg) | ((with_reducible refine gate_store (t := 108) (p := 12) rfl ?_); refine ev_store_partx_ rfl 108 (.tmp 12) (.tmp 20) rfl rfl gb1095 0 [] [.int .i8 0, .int .i8 0, .int .i8 0, .int .i8 0, .int .i8 0, .int .i8 0, .int .i8 0, .int .i8 0, .int .i8 0, .int .i8 0, .int .i8 0, .int .i8 0, .int .i8 0, .int .i8 0, .int .i8 0, .int .i8 0, .int .i8 0, .int .i8 0, .int .i8 0, .int .i8 0, .int .i8 0, .int .i8 0, .int .i8 0, .int .i8 0, .int .i8 0, .int .i8 0, .int .i8 0, .int .i8 0, .slice none 0 0, .string (⟨#[]⟩ : ByteArray), .string (⟨#[]⟩ : ByteArray), .int .i64 0] [.int .i8 a0_0, .int .i8 a0_1, .int .i8 a0_2, .int .i8 a0_3, .int .i8 a0_4, .int .i8 a0_5, .int .i8 a0_6, .int .i8 a0_7, .int .i8 a0_8, .int .i8 a0_9, .int .i8 a0_10, .int .i8 a0_11, .int .i8 a0_12, .int .i8 a0_13, .int .i8 a0_14, .int .i8 a0_15, .int .i8 a0_16, .int .i8 a0_17, .int .i8 a0_18, .int .i8 a0_19, .int .i8 a0_20, .int .i8 a0_21, .int .i8 a0_22, .int .i8 a0_23, .int .i8 a0_24, .int .i8 a0_25, .int .i8 a0_26, .int .i8 a0_27, .slice A0_28 l0_28.length c0_28, .string a1, .string a2, .int .i64 a3] [] rfl rfl 108 rfl rfl (by (with_reducible repeat (first | refine blk_drewN ?_ _ | refine blk_drew ?_ | refine blk_alloc ?_ _)); exact BK1095.out) (by exact (show (Tryd.prog.info? 108).map (·.size) = some 32 by kernel_rfl)) rfl ?_; intro w10 hblk hkep hbel; have n0_ := Aside0.mk ((show w10.heap[gb1095]? = some (.cells #[.int .i8 a0_0, .int .i8 a0_1, .int .i8 a0_2, .int .i8 a0_3, .int .i8 a0_4, .int .i8 a0_5, .int .i8 a0_6, .int .i8 a0_7, .int .i8 a0_8, .int .i8 a0_9, .int .i8 a0_10, .int .i8 a0_11, .int .i8 a0_12, .int .i8 a0_13, .int .i8 a0_14, .int .i8 a0_15, .int .i8 a0_16, .int .i8 a0_17, .int .i8 a0_18, .int .i8 a0_19, .int .i8 a0_20, .int .i8 a0_21, .int .i8 a0_22, .int .i8 a0_23, .int .i8 a0_24, .int .i8 a0_25, .int .i8 a0_26, .int .i8 a0_27, .slice A0_28 l0_28.length c0_28, .string a1, .string a2, .int .i64 a3] 108 (0, 0)) from hblk)); have n1_ := Aside0.mk (blk_kept (by (with_reducible repeat (first | refine blk_drewN ?_ _ | refine blk_drew ?_ | refine blk_alloc ?_ _)); exact BK1094.out) hkep (fun e_ => NB1094_1095.out e_)); have n2_ := Aside0.mk ((show Below w.heap.size w w10 from Below.trans (by repeat (first | (with_reducible first | exact HB.out | apply below_alloc | apply pw_below_drewN | apply below_drew1 | refine below_set ?_ GE1094.out | refine below_set ?_ GE1095.out) | exact HB.out)) (hbel _ GW1095.out))); clear BK1095; clear BK1094; clear HB; have BK1095 := n0_; have BK1094 := n1_; have HB := n2_; clear n0_ n1_ n2_; clear hblk hkep hbel) | ((with_reducible refine gate_dst (N := 21) rfl ?_); refine wpList_load_mid rfl 108 (.tmp 12) rfl gb1095 0 rfl [.int .i8 a0_0, .int .i8 a0_1, .int .i8 a0_2, .int .i8 a0_3, .int .i8 a0_4, .int .i8 a0_5, .int .i8 a0_6, .int .i8 a0_7, .int .i8 a0_8, .int .i8 a0_9, .int .i8 a0_10, .int .i8 a0_11, .int .i8 a0_12, .int .i8 a0_13, .int .i8 a0_14, .int .i8 a0_15, .int .i8 a0_16, .int .i8 a0_17, .int .i8 a0_18, .int .i8 a0_19, .int .i8 a0_20, .int .i8 a0_21, .int .i8 a0_22, .int .i8 a0_23, .int .i8 a0_24, .int .i8 a0_25, .int .i8 a0_26, .int .i8 a0_27, .slice A0_28 l0_28.length c0_28, .string a1, .string a2, .int .i64 a3] _ (range_partx_ [] [.int .i8 a0_0, .int .i8 a0_1, .int .i8 a0_2, .int .i8 a0_3, .int .i8 a0_4, .int .i8 a0_5, .int .i8 a0_6, .int .i8 a0_7, .int .i8 a0_8, .int .i8 a0_9, .int .i8 a0_10, .int .i8 a0_11, .int .i8 a0_12, .int .i8 a0_13, .int .i8 a0_14, .int .i8 a0_15, .int .i8 a0_16, .int .i8 a0_17, .int .i8 a0_18, .int .i8 a0_19, .int .i8 a0_20, .int .i8 a0_21, .int .i8 a0_22, .int .i8 a0_23, .int .i8 a0_24, .int .i8 a0_25, .int .i8 a0_26, .int .i8 a0_27, .slice A0_28 l0_28.length c0_28, .string a1, .string a2, .int .i64 a3] [] 0 rfl (by (with_reducible repeat (first | refine blk_drewN ?_ _ | refine blk_drew ?_ | refine blk_alloc ?_ _)); exact BK1095.out)) Tryd.underlying108 rfl (by exact (show (Tryd.prog.info? 108).map (·.size) = some 32 by kernel_rfl)) ?_) | ((with_reducible refine gate_callee (f := 90) rfl ?_); refine goesL_ (some 23) rfl rfl Tryd.func90 (by kernel_rfl) rfl #[.agg #[.int .i8 a0_0, .int .i8 a0_1, .int .i8 a0_2, .int .i8 a0_3, .int .i8 a0_4, .int .i8 a0_5, .int .i8 a0_6, .int .i8 a0_7, .int .i8 a0_8, .int .i8 a0_9, .int .i8 a0_10, .int .i8 a0_11, .int .i8 a0_12, .int .i8 a0_13, .int .i8 a0_14, .int .i8 a0_15, .int .i8 a0_16, .int .i8 a0_17, .int .i8 a0_18, .int .i8 a0_19, .int .i8 a0_20, .int .i8 a0_21, .int .i8 a0_22, .int .i8 a0_23, .int .i8 a0_24, .int .i8 a0_25, .int .i8 a0_26, .int .i8 a0_27, .slice A0_28 l0_28.length c0_28, .string a1, .string a2, .int .i64 a3], .slice none 0 0, .int .i64 a4] rfl (by (try simp only [List.map_toArray, List.map_cons, List.map_nil]); first | done | rfl | (simp only [List.length_drop, List.length_take]; rfl)) ?_; (refine (impl_gapCode.calls k a0_0 a0_1 a0_2 a0_3 a0_4 a0_5 a0_6 a0_7 a0_8 a0_9 a0_10 a0_11 a0_12 a0_13 a0_14 a0_15 a0_16 a0_17 a0_18 a0_19 a0_20 a0_21 a0_22 a0_23 a0_24 a0_25 a0_26 a0_27 _ _ l0_28 a1 a2 a3 _ _ ([] : List ByteArray) a4 t1096 _ ?side1 ?side2 ?side3 ?side4 ?sideG A6.out).mono ?_); (case sideG => first | exact HG.out.below (by repeat (first | (with_reducible first | exact HB.out | apply below_alloc | apply pw_below_drewN | apply below_drew1) | exact HB.out)) | exact (HG.out.below (by repeat (first | (with_reducible first | exact HB.out | apply below_alloc | apply pw_below_drewN | apply below_drew1) | exact HB.out))).toM); (case side1 => repeat (first | exact (Kd.C_below HR0_28.out HB.out) | (with_reducible refine Kd.C_alloc ?_ _) | (with_reducible refine Kd.C_drewN ?_ _) | (with_reducible refine Kd.C_drew ?_))); (case side2 => exact HC0_28.out); (case side3 => exact Kd.C_nil _ _); (case side4 => exact Nat.le_refl _); rintro e w11 ⟨rfl, hb⟩; refine ⟨_, rfl, ?_⟩; have n0_ := Aside0.mk (blk_below (g := gb1094) (o := .cells #[.int .i8 a0_0, .int .i8 a0_1, .int .i8 a0_2, .int .i8 a0_3, .int .i8 a0_4, .int .i8 a0_5, .int .i8 a0_6, .int .i8 a0_7, .int .i8 a0_8, .int .i8 a0_9, .int .i8 a0_10, .int .i8 a0_11, .int .i8 a0_12, .int .i8 a0_13, .int .i8 a0_14, .int .i8 a0_15, .int .i8 a0_16, .int .i8 a0_17, .int .i8 a0_18, .int .i8 a0_19, .int .i8 a0_20, .int .i8 a0_21, .int .i8 a0_22, .int .i8 a0_23, .int .i8 a0_24, .int .i8 a0_25, .int .i8 a0_26, .int .i8 a0_27, .slice A0_28 l0_28.length c0_28] 32 (0, 0)) (by (with_reducible repeat (first | refine blk_drewN ?_ _ | refine blk_drew ?_ | refine blk_alloc ?_ _)); exact BK1094.out) hb); have n1_ := Aside0.mk (blk_below (g := gb1095) (o := .cells #[.int .i8 a0_0, .int .i8 a0_1, .int .i8 a0_2, .int .i8 a0_3, .int .i8 a0_4, .int .i8 a0_5, .int .i8 a0_6, .int .i8 a0_7, .int .i8 a0_8, .int .i8 a0_9, .int .i8 a0_10, .int .i8 a0_11, .int .i8 a0_12, .int .i8 a0_13, .int .i8 a0_14, .int .i8 a0_15, .int .i8 a0_16, .int .i8 a0_17, .int .i8 a0_18, .int .i8 a0_19, .int .i8 a0_20, .int .i8 a0_21, .int .i8 a0_22, .int .i8 a0_23, .int .i8 a0_24, .int .i8 a0_25, .int .i8 a0_26, .int .i8 a0_27, .slice A0_28 l0_28.length c0_28, .string a1, .string a2, .int .i64 a3] 108 (0, 0)) (by (with_reducible repeat (first | refine blk_drewN ?_ _ | refine blk_drew ?_ | refine blk_alloc ?_ _)); exact BK1095.out) hb); have n2_ := Aside0.mk (below_step (by repeat (first | (with_reducible first | exact HB.out | apply below_alloc | apply pw_below_drewN | apply below_drew1 | refine below_set ?_ GE1094.out | refine below_set ?_ GE1095.out) | exact HB.out)) hb); clear BK1094; clear BK1095; clear HB; have BK1094 := n0_; have BK1095 := n1_; have HB := n2_; clear n0_ n1_ n2_; (try clear hb); (try clear hb2); (try clear hk); (try clear hi)) | ((with_reducible refine gate_dst (N := 27) rfl ?_); refine Kd.R_lit (Kd.int .u8) _ 5 ?hg (N := 27) ?hd (xs := ([] : List Int)) (inner := []) (ok := fun _ => True) (okp := fun _ => True) ?hr ?hp (fun _ hk => hk) trivial (Below.refl _ _) (Nat.le_refl _) (by simp) ?_; (case hd => rfl); (case hg => rfl); (case hr => first | (go_simp; done) | (go_simp; rfl)); (case hp => exact (Reps.none _ _)); intro v1098 w12 ho13 hb hg_ hnew_; clear hg_ hnew_; (first | rw [← Ny1097.out] at ho13 | (simp only [Int.reduceToNat] at ho13; rw [← Ny1097.out] at ho13)); have n0_ := Aside0.mk (Kd.R_lower ho13 (below_size (by repeat (first | (with_reducible first | exact HB.out | apply below_alloc | apply pw_below_drewN | apply below_drew1 | refine below_set ?_ GE1094.out | refine below_set ?_ GE1095.out) | exact HB.out)))); have n1_ := Aside0.mk (blk_below (g := gb1094) (o := .cells #[.int .i8 a0_0, .int .i8 a0_1, .int .i8 a0_2, .int .i8 a0_3, .int .i8 a0_4, .int .i8 a0_5, .int .i8 a0_6, .int .i8 a0_7, .int .i8 a0_8, .int .i8 a0_9, .int .i8 a0_10, .int .i8 a0_11, .int .i8 a0_12, .int .i8 a0_13, .int .i8 a0_14, .int .i8 a0_15, .int .i8 a0_16, .int .i8 a0_17, .int .i8 a0_18, .int .i8 a0_19, .int .i8 a0_20, .int .i8 a0_21, .int .i8 a0_22, .int .i8 a0_23, .int .i8 a0_24, .int .i8 a0_25, .int .i8 a0_26, .int .i8 a0_27, .slice A0_28 l0_28.length c0_28] 32 (0, 0)) (by (with_reducible repeat (first | refine blk_drewN ?_ _ | refine blk_drew ?_ | refine blk_alloc ?_ _)); exact BK1094.out) hb); have n2_ := Aside0.mk (blk_below (g := gb1095) (o := .cells #[.int .i8 a0_0, .int .i8 a0_1, .int .i8 a0_2, .int .i8 a0_3, .int .i8 a0_4, .int .i8 a0_5, .int .i8 a0_6, .int .i8 a0_7, .int .i8 a0_8, .int .i8 a0_9, .int .i8 a0_10, .int .i8 a0_11, .int .i8 a0_12, .int .i8 a0_13, .int .i8 a0_14, .int .i8 a0_15, .int .i8 a0_16, .int .i8 a0_17, .int .i8 a0_18, .int .i8 a0_19, .int .i8 a0_20, .int .i8 a0_21, .int .i8 a0_22, .int .i8 a0_23, .int .i8 a0_24, .int .i8 a0_25, .int .i8 a0_26, .int .i8 a0_27, .slice A0_28 l0_28.length c0_28, .string a1, .string a2, .int .i64 a3] 108 (0, 0)) (by (with_reducible repeat (first | refine blk_drewN ?_ _ | refine blk_drew ?_ | refine blk_alloc ?_ _)); exact BK1095.out) hb); have n3_ := Aside0.mk (below_step (by repeat (first | (with_reducible first | exact HB.out | apply below_alloc | apply pw_below_drewN | apply below_drew1 | refine below_set ?_ GE1094.out | refine below_set ?_ GE1095.out) | exact HB.out)) hb); clear BK1094; clear BK1095; clear HB; have HO1099 := n0_; have BK1094 := n1_; have BK1095 := n2_; have HB := n3_; clear n0_ n1_ n2_ n3_; clear hb ho13))
    go_loopg [14, 15] k (fun kq v14 v15 w' => ∃ (x14_1 : List Int) (x15_1 : Int), v15 = .int .u8 x15_1 ∧ Aside0 (impl_FillLetter.l0 kq a4 x14_1 x15_1 a0_0 a0_1 a0_2 a0_3 a0_4 a0_5 a0_6 a0_7 a0_8 a0_9 a0_10 a0_11 a0_12 a0_13 a0_14 a0_15 a0_16 a0_17 a0_18 a0_19 a0_20 a0_21 a0_22 a0_23 a0_24 a0_25 a0_26 a0_27 l0_28 a1 a2 a3 = some (r1, r2)) ∧ Aside0 (kq ≤ k) ∧ Aside0 (Kd.R (Kd.int .u8) 5 w' w.heap.size (fun _ => True) v14 x14_1) ∧ Aside0 (w'.heap[gb1094]? = some (.cells #[.int .i8 a0_0, .int .i8 a0_1, .int .i8 a0_2, .int .i8 a0_3, .int .i8 a0_4, .int .i8 a0_5, .int .i8 a0_6, .int .i8 a0_7, .int .i8 a0_8, .int .i8 a0_9, .int .i8 a0_10, .int .i8 a0_11, .int .i8 a0_12, .int .i8 a0_13, .int .i8 a0_14, .int .i8 a0_15, .int .i8 a0_16, .int .i8 a0_17, .int .i8 a0_18, .int .i8 a0_19, .int .i8 a0_20, .int .i8 a0_21, .int .i8 a0_22, .int .i8 a0_23, .int .i8 a0_24, .int .i8 a0_25, .int .i8 a0_26, .int .i8 a0_27, (.slice A0_28 l0_28.length c0_28)] 32 (0, 0))) ∧ Aside0 (w'.heap[gb1095]? = some (.cells #[.int .i8 a0_0, .int .i8 a0_1, .int .i8 a0_2, .int .i8 a0_3, .int .i8 a0_4, .int .i8 a0_5, .int .i8 a0_6, .int .i8 a0_7, .int .i8 a0_8, .int .i8 a0_9, .int .i8 a0_10, .int .i8 a0_11, .int .i8 a0_12, .int .i8 a0_13, .int .i8 a0_14, .int .i8 a0_15, .int .i8 a0_16, .int .i8 a0_17, .int .i8 a0_18, .int .i8 a0_19, .int .i8 a0_20, .int .i8 a0_21, .int .i8 a0_22, .int .i8 a0_23, .int .i8 a0_24, .int .i8 a0_25, .int .i8 a0_26, .int .i8 a0_27, (.slice A0_28 l0_28.length c0_28), .string a1, .string a2, .int .i64 a3] 108 (0, 0))) ∧ Aside0 (Below w.heap.size w w'))
    case atStart => exact ⟨(y1097), (65), (by first | rfl | (simp; done) | (simp [*]; done)), H', ⟨Nat.le_refl _⟩, ⟨by (with_reducible repeat (first | apply Kd.R_alloc | apply Kd.R_drewN | apply Kd.R_drew)); exact HO1099.out⟩, ⟨by (with_reducible repeat (first | refine blk_drewN ?_ _ | refine blk_drew ?_ | refine blk_alloc ?_ _)); exact BK1094.out⟩, ⟨by (with_reducible repeat (first | refine blk_drewN ?_ _ | refine blk_drew ?_ | refine blk_alloc ?_ _)); exact BK1095.out⟩, ⟨by repeat (first | (with_reducible first | exact HB.out | apply below_alloc | apply pw_below_drewN | apply below_drew1 | refine below_set ?_ GE1094.out | refine below_set ?_ GE1095.out) | exact HB.out)⟩⟩
    case round =>
      clear H'
      try clear p2
      try clear c3
      try clear c7
      try clear c7b0
      try clear c7b1
      try clear c9
      obtain ⟨x14_1, x15_1, rfl, HA, HK1, HO_14, BK1094, BK1095, HB⟩ := hrel
      cases gk with
      | zero => exact absurd HA.out (by simp [impl_FillLetter.l0])
      | succ k1 =>
        have H := HA.out
        clear HA
        simp only [impl_FillLetter.l0] at H
        by_cases c14 : x15_1 ≤ 90
        · rw [if_pos c14] at H
          have c14b0 : decide (x15_1 ≤ 90) = true := decide_eq_true c14
          clear c14
          obtain ⟨y1100, hy1100⟩ : ∃ y_ : List Int, y_ = (([x15_1] : List Int)) := ⟨_, rfl⟩
          replace H : ((impl_gapLine_fits.f k1 a0_0 a0_1 a0_2 a0_3 a0_4 a0_5 a0_6 a0_7 a0_8 a0_9 a0_10 a0_11 a0_12 a0_13 a0_14 a0_15 a0_16 a0_17 a0_18 a0_19 a0_20 a0_21 a0_22 a0_23 a0_24 a0_25 a0_26 a0_27 l0_28 a1 a2 a3 (strOfNums y1100) a4).bind fun t1103 => (if t1103 = true then (if x14_1.length < 140737488355328 then (impl_FillLetter.l0 k1 a4 (x14_1 ++ [x15_1]) ((x15_1 + 1) % 256) a0_0 a0_1 a0_2 a0_3 a0_4 a0_5 a0_6 a0_7 a0_8 a0_9 a0_10 a0_11 a0_12 a0_13 a0_14 a0_15 a0_16 a0_17 a0_18 a0_19 a0_20 a0_21 a0_22 a0_23 a0_24 a0_25 a0_26 a0_27 l0_28 a1 a2 a3) else (none)) else (impl_FillLetter.l0 k1 a4 x14_1 ((x15_1 + 1) % 256) a0_0 a0_1 a0_2 a0_3 a0_4 a0_5 a0_6 a0_7 a0_8 a0_9 a0_10 a0_11 a0_12 a0_13 a0_14 a0_15 a0_16 a0_17 a0_18 a0_19 a0_20 a0_21 a0_22 a0_23 a0_24 a0_25 a0_26 a0_27 l0_28 a1 a2 a3))) = some (r1, r2) := by first | (rw [hy1100]; with_reducible exact H) | (have H2_ := (Option.bind_some _ _).symm.trans H; rw [hy1100]; with_reducible exact H2_) | (have H2_ := (Option.bind_some _ _).symm.trans H; with_reducible exact H2_) | with_reducible exact H | (rw [hy1100]; exact H) | exact H
          have Ny1100 := Aside0.mk hy1100
          clear hy1100
          replace H := Option.bind_eq_some_iff.mp H
          obtain ⟨t1103, A150, H⟩ := H
          replace H : (if t1103 = true then (if x14_1.length < 140737488355328 then (impl_FillLetter.l0 k1 a4 (x14_1 ++ [x15_1]) ((x15_1 + 1) % 256) a0_0 a0_1 a0_2 a0_3 a0_4 a0_5 a0_6 a0_7 a0_8 a0_9 a0_10 a0_11 a0_12 a0_13 a0_14 a0_15 a0_16 a0_17 a0_18 a0_19 a0_20 a0_21 a0_22 a0_23 a0_24 a0_25 a0_26 a0_27 l0_28 a1 a2 a3) else (none)) else (impl_FillLetter.l0 k1 a4 x14_1 ((x15_1 + 1) % 256) a0_0 a0_1 a0_2 a0_3 a0_4 a0_5 a0_6 a0_7 a0_8 a0_9 a0_10 a0_11 a0_12 a0_13 a0_14 a0_15 a0_16 a0_17 a0_18 a0_19 a0_20 a0_21 a0_22 a0_23 a0_24 a0_25 a0_26 a0_27 l0_28 a1 a2 a3)) = some (r1, r2) := H
          have A15 := Aside0.mk A150
          clear A150
          by_cases c16 : t1103 = true
          · subst c16
            have H1 : (if x14_1.length < 140737488355328 then (impl_FillLetter.l0 k1 a4 (x14_1 ++ [x15_1]) ((x15_1 + 1) % 256) a0_0 a0_1 a0_2 a0_3 a0_4 a0_5 a0_6 a0_7 a0_8 a0_9 a0_10 a0_11 a0_12 a0_13 a0_14 a0_15 a0_16 a0_17 a0_18 a0_19 a0_20 a0_21 a0_22 a0_23 a0_24 a0_25 a0_26 a0_27 l0_28 a1 a2 a3) else (none)) = some (r1, r2) := by rw [if_pos rfl] at H; exact H
            clear H
            have H := H1
            clear H1
            by_cases c17 : x14_1.length < 140737488355328
            · rw [if_pos c17] at H
              have LMc17 := Aside0.mk c17
              clear c17
              obtain ⟨y1104, hy1104⟩ : ∃ y_ : List Int, y_ = (x14_1 ++ [x15_1]) := ⟨_, rfl⟩
              replace H : (impl_FillLetter.l0 k1 a4 y1104 ((x15_1 + 1) % 256) a0_0 a0_1 a0_2 a0_3 a0_4 a0_5 a0_6 a0_7 a0_8 a0_9 a0_10 a0_11 a0_12 a0_13 a0_14 a0_15 a0_16 a0_17 a0_18 a0_19 a0_20 a0_21 a0_22 a0_23 a0_24 a0_25 a0_26 a0_27 l0_28 a1 a2 a3) = some (r1, r2) := by first | (rw [hy1104]; with_reducible exact H) | (have H2_ := (Option.bind_some _ _).symm.trans H; rw [hy1104]; with_reducible exact H2_) | (have H2_ := (Option.bind_some _ _).symm.trans H; with_reducible exact H2_) | with_reducible exact H | (rw [hy1104]; exact H) | exact H
              have Ny1104 := Aside0.mk hy1104
              clear hy1104
              have H' := Aside0.mk H
              clear H
              go_wp2_with (first | ((with_reducible refine gate_dst (N := 32) rfl ?_); refine wpList_load_mid rfl 108 (.tmp 12) rfl gb1095 0 rfl [.int .i8 a0_0, .int .i8 a0_1, .int .i8 a0_2, .int .i8 a0_3, .int .i8 a0_4, .int .i8 a0_5, .int .i8 a0_6, .int .i8 a0_7, .int .i8 a0_8, .int .i8 a0_9, .int .i8 a0_10, .int .i8 a0_11, .int .i8 a0_12, .int .i8 a0_13, .int .i8 a0_14, .int .i8 a0_15, .int .i8 a0_16, .int .i8 a0_17, .int .i8 a0_18, .int .i8 a0_19, .int .i8 a0_20, .int .i8 a0_21, .int .i8 a0_22, .int .i8 a0_23, .int .i8 a0_24, .int .i8 a0_25, .int .i8 a0_26, .int .i8 a0_27, .slice A0_28 l0_28.length c0_28, .string a1, .string a2, .int .i64 a3] _ (range_partx_ [] [.int .i8 a0_0, .int .i8 a0_1, .int .i8 a0_2, .int .i8 a0_3, .int .i8 a0_4, .int .i8 a0_5, .int .i8 a0_6, .int .i8 a0_7, .int .i8 a0_8, .int .i8 a0_9, .int .i8 a0_10, .int .i8 a0_11, .int .i8 a0_12, .int .i8 a0_13, .int .i8 a0_14, .int .i8 a0_15, .int .i8 a0_16, .int .i8 a0_17, .int .i8 a0_18, .int .i8 a0_19, .int .i8 a0_20, .int .i8 a0_21, .int .i8 a0_22, .int .i8 a0_23, .int .i8 a0_24, .int .i8 a0_25, .int .i8 a0_26, .int .i8 a0_27, .slice A0_28 l0_28.length c0_28, .string a1, .string a2, .int .i64 a3] [] 0 rfl (by (with_reducible repeat (first | refine blk_drewN ?_ _ | refine blk_drew ?_ | refine blk_alloc ?_ _)); exact BK1095.out)) Tryd.underlying108 rfl (by exact (show (Tryd.prog.info? 108).map (·.size) = some 32 by kernel_rfl)) ?_) | ((with_reducible refine gate_dst (N := 34) rfl ?_); refine Kd.R_lit (Kd.int .u8) _ 5 ?hg (N := 34) ?hd (xs := ([x15_1] : List Int)) (inner := [.int .u8 x15_1]) (ok := fun _ => True) (okp := fun _ => True) ?hr ?hp (fun _ hk => hk) trivial (Below.refl _ _) (Nat.le_refl _) (by simp) ?_; (case hd => rfl); (case hg => rfl); (case hr => first | (go_simp; done) | (go_simp; rfl)); (case hp => exact (Reps.one (show Kd.M (Kd.int .u8) _ _ _ x15_1 [.int .u8 x15_1] from rfl) (Reps.none _ _))); intro v1101 w18 ho19 hb hg_ hnew_; clear hg_ hnew_; (first | rw [← Ny1100.out] at ho19 | (simp only [Int.reduceToNat] at ho19; rw [← Ny1100.out] at ho19)); have n0_ := Aside0.mk (Kd.R_elder' (by (with_reducible repeat (first | apply Kd.R_alloc | apply Kd.R_drewN | apply Kd.R_drew)); exact HO_14.out) (Kd.R_base ho19) hb); have n1_ := Aside0.mk (Kd.R_lower (Kd.R_new' ho19 (Kd.R_lt (by (with_reducible repeat (first | apply Kd.R_alloc | apply Kd.R_drewN | apply Kd.R_drew)); exact HO_14.out))) (below_size (by repeat (first | (with_reducible first | exact HB.out | apply below_alloc | apply pw_below_drewN | apply below_drew1 | refine below_set ?_ GE1094.out | refine below_set ?_ GE1095.out) | exact HB.out)))); have n2_ := Aside0.mk (blk_below (g := gb1094) (o := .cells #[.int .i8 a0_0, .int .i8 a0_1, .int .i8 a0_2, .int .i8 a0_3, .int .i8 a0_4, .int .i8 a0_5, .int .i8 a0_6, .int .i8 a0_7, .int .i8 a0_8, .int .i8 a0_9, .int .i8 a0_10, .int .i8 a0_11, .int .i8 a0_12, .int .i8 a0_13, .int .i8 a0_14, .int .i8 a0_15, .int .i8 a0_16, .int .i8 a0_17, .int .i8 a0_18, .int .i8 a0_19, .int .i8 a0_20, .int .i8 a0_21, .int .i8 a0_22, .int .i8 a0_23, .int .i8 a0_24, .int .i8 a0_25, .int .i8 a0_26, .int .i8 a0_27, .slice A0_28 l0_28.length c0_28] 32 (0, 0)) (by (with_reducible repeat (first | refine blk_drewN ?_ _ | refine blk_drew ?_ | refine blk_alloc ?_ _)); exact BK1094.out) hb); have n3_ := Aside0.mk (blk_below (g := gb1095) (o := .cells #[.int .i8 a0_0, .int .i8 a0_1, .int .i8 a0_2, .int .i8 a0_3, .int .i8 a0_4, .int .i8 a0_5, .int .i8 a0_6, .int .i8 a0_7, .int .i8 a0_8, .int .i8 a0_9, .int .i8 a0_10, .int .i8 a0_11, .int .i8 a0_12, .int .i8 a0_13, .int .i8 a0_14, .int .i8 a0_15, .int .i8 a0_16, .int .i8 a0_17, .int .i8 a0_18, .int .i8 a0_19, .int .i8 a0_20, .int .i8 a0_21, .int .i8 a0_22, .int .i8 a0_23, .int .i8 a0_24, .int .i8 a0_25, .int .i8 a0_26, .int .i8 a0_27, .slice A0_28 l0_28.length c0_28, .string a1, .string a2, .int .i64 a3] 108 (0, 0)) (by (with_reducible repeat (first | refine blk_drewN ?_ _ | refine blk_drew ?_ | refine blk_alloc ?_ _)); exact BK1095.out) hb); have n4_ := Aside0.mk (below_step (by repeat (first | (with_reducible first | exact HB.out | apply below_alloc | apply pw_below_drewN | apply below_drew1 | refine below_set ?_ GE1094.out | refine below_set ?_ GE1095.out) | exact HB.out)) hb); clear HO_14; clear BK1094; clear BK1095; clear HB; have HO_14 := n0_; have HO1102 := n1_; have BK1094 := n2_; have BK1095 := n3_; have HB := n4_; clear n0_ n1_ n2_ n3_ n4_; clear hb ho19; have hcv20 := own_string (P := Tryd.prog) Tryd.underlying105 Tryd.underlying5 Tryd.underlying9 (Kd.own_of_R HO1102.out)) | ((with_reducible refine gate_callee (f := 91) rfl ?_); refine goesL_ (some 37) rfl rfl Tryd.func91 (by kernel_rfl) rfl #[.agg #[.int .i8 a0_0, .int .i8 a0_1, .int .i8 a0_2, .int .i8 a0_3, .int .i8 a0_4, .int .i8 a0_5, .int .i8 a0_6, .int .i8 a0_7, .int .i8 a0_8, .int .i8 a0_9, .int .i8 a0_10, .int .i8 a0_11, .int .i8 a0_12, .int .i8 a0_13, .int .i8 a0_14, .int .i8 a0_15, .int .i8 a0_16, .int .i8 a0_17, .int .i8 a0_18, .int .i8 a0_19, .int .i8 a0_20, .int .i8 a0_21, .int .i8 a0_22, .int .i8 a0_23, .int .i8 a0_24, .int .i8 a0_25, .int .i8 a0_26, .int .i8 a0_27, .slice A0_28 l0_28.length c0_28, .string a1, .string a2, .int .i64 a3], .string (strOfNums y1100), .int .i64 a4] rfl (by (try simp only [List.map_toArray, List.map_cons, List.map_nil]); first | done | rfl | (simp only [List.length_drop, List.length_take]; rfl)) ?_; (with_reducible refine (impl_gapLine_fits.calls k1 a0_0 a0_1 a0_2 a0_3 a0_4 a0_5 a0_6 a0_7 a0_8 a0_9 a0_10 a0_11 a0_12 a0_13 a0_14 a0_15 a0_16 a0_17 a0_18 a0_19 a0_20 a0_21 a0_22 a0_23 a0_24 a0_25 a0_26 a0_27 _ _ l0_28 a1 a2 a3 (strOfNums y1100) a4 true _ ?side1 ?side2 ?sideG A15.out).mono ?_); (case sideG => first | exact HG.out.below (by repeat (first | (with_reducible first | exact HB.out | apply below_alloc | apply pw_below_drewN | apply below_drew1) | exact HB.out)) | exact (HG.out.below (by repeat (first | (with_reducible first | exact HB.out | apply below_alloc | apply pw_below_drewN | apply below_drew1) | exact HB.out))).toM); (case side1 => repeat (first | exact (Kd.C_below HR0_28.out HB.out) | (with_reducible refine Kd.C_alloc ?_ _) | (with_reducible refine Kd.C_drewN ?_ _) | (with_reducible refine Kd.C_drew ?_))); (case side2 => exact HC0_28.out); rintro e w21 ⟨rfl, hb⟩; refine ⟨_, rfl, ?_⟩; have n0_ := Aside0.mk (Kd.R_below (by (with_reducible repeat (first | apply Kd.R_alloc | apply Kd.R_drewN | apply Kd.R_drew)); exact HO_14.out) hb); have n1_ := Aside0.mk (Kd.R_below (by (with_reducible repeat (first | apply Kd.R_alloc | apply Kd.R_drewN | apply Kd.R_drew)); exact HO1102.out) hb); have n2_ := Aside0.mk (blk_below (g := gb1094) (o := .cells #[.int .i8 a0_0, .int .i8 a0_1, .int .i8 a0_2, .int .i8 a0_3, .int .i8 a0_4, .int .i8 a0_5, .int .i8 a0_6, .int .i8 a0_7, .int .i8 a0_8, .int .i8 a0_9, .int .i8 a0_10, .int .i8 a0_11, .int .i8 a0_12, .int .i8 a0_13, .int .i8 a0_14, .int .i8 a0_15, .int .i8 a0_16, .int .i8 a0_17, .int .i8 a0_18, .int .i8 a0_19, .int .i8 a0_20, .int .i8 a0_21, .int .i8 a0_22, .int .i8 a0_23, .int .i8 a0_24, .int .i8 a0_25, .int .i8 a0_26, .int .i8 a0_27, .slice A0_28 l0_28.length c0_28] 32 (0, 0)) (by (with_reducible repeat (first | refine blk_drewN ?_ _ | refine blk_drew ?_ | refine blk_alloc ?_ _)); exact BK1094.out) hb); have n3_ := Aside0.mk (blk_below (g := gb1095) (o := .cells #[.int .i8 a0_0, .int .i8 a0_1, .int .i8 a0_2, .int .i8 a0_3, .int .i8 a0_4, .int .i8 a0_5, .int .i8 a0_6, .int .i8 a0_7, .int .i8 a0_8, .int .i8 a0_9, .int .i8 a0_10, .int .i8 a0_11, .int .i8 a0_12, .int .i8 a0_13, .int .i8 a0_14, .int .i8 a0_15, .int .i8 a0_16, .int .i8 a0_17, .int .i8 a0_18, .int .i8 a0_19, .int .i8 a0_20, .int .i8 a0_21, .int .i8 a0_22, .int .i8 a0_23, .int .i8 a0_24, .int .i8 a0_25, .int .i8 a0_26, .int .i8 a0_27, .slice A0_28 l0_28.length c0_28, .string a1, .string a2, .int .i64 a3] 108 (0, 0)) (by (with_reducible repeat (first | refine blk_drewN ?_ _ | refine blk_drew ?_ | refine blk_alloc ?_ _)); exact BK1095.out) hb); have n4_ := Aside0.mk (below_step (by repeat (first | (with_reducible first | exact HB.out | apply below_alloc | apply pw_below_drewN | apply below_drew1 | refine below_set ?_ GE1094.out | refine below_set ?_ GE1095.out) | exact HB.out)) hb); clear HO_14; clear HO1102; clear BK1094; clear BK1095; clear HB; have HO_14 := n0_; have HO1102 := n1_; have BK1094 := n2_; have BK1095 := n3_; have HB := n4_; clear n0_ n1_ n2_ n3_ n4_; (try clear hb); (try clear hb2); (try clear hk); (try clear hi)) | ((with_reducible refine gate_builtin (b := .append) (xs := #[.tmp 38, .tmp 40]) rfl ?_); at_builtin; refine Kd.R_append (Kd.int .u8) (w0 := w) w.heap.size rfl (.tmp 38) (.tmp 40) 105 5 (.int .u8 0) 1 rfl Tryd.underlying105 info5 rfl (by decide) (by omega) u14 x14_1 x15_1 [.int .u8 x15_1] (fun k_ => some k_ ≠ (v1101 : Value).ownBlock) (fun _ => False) rfl rfl ?aP (fun _ hk => hk.elim) ?aF ?aO ?aB ?aS ?aL ?_; (case aP => exact rfl); (case aB => exact (by repeat (first | (with_reducible first | exact HB.out | apply below_alloc | apply pw_below_drewN | apply below_drew1 | refine below_set ?_ GE1094.out | refine below_set ?_ GE1095.out) | exact HB.out))); (case aF => exact (fun k_ hk => Kd.fresh' (Kd.R_lt (by (with_reducible repeat (first | apply Kd.R_alloc | apply Kd.R_drewN | apply Kd.R_drew)); exact HO1102.out)) k_ hk)); (case aO => exact (by (with_reducible repeat (first | apply Kd.R_alloc | apply Kd.R_drewN | apply Kd.R_drew)); exact Kd.R_mono HO_14.out (fun _ hk => hk.2))); (case aS => exact (below_size (by repeat (first | (with_reducible first | exact HB.out | apply below_alloc | apply pw_below_drewN | apply below_drew1 | refine below_set ?_ GE1094.out | refine below_set ?_ GE1095.out) | exact HB.out)))); (case aL => have := LMc17.out; omega); intro v1105 w22 ho hb hg hat; rw [← Ny1104.out] at ho; have n0_ := Aside0.mk (blk_grown (g := gb1094) (o := .cells #[.int .i8 a0_0, .int .i8 a0_1, .int .i8 a0_2, .int .i8 a0_3, .int .i8 a0_4, .int .i8 a0_5, .int .i8 a0_6, .int .i8 a0_7, .int .i8 a0_8, .int .i8 a0_9, .int .i8 a0_10, .int .i8 a0_11, .int .i8 a0_12, .int .i8 a0_13, .int .i8 a0_14, .int .i8 a0_15, .int .i8 a0_16, .int .i8 a0_17, .int .i8 a0_18, .int .i8 a0_19, .int .i8 a0_20, .int .i8 a0_21, .int .i8 a0_22, .int .i8 a0_23, .int .i8 a0_24, .int .i8 a0_25, .int .i8 a0_26, .int .i8 a0_27, .slice A0_28 l0_28.length c0_28] 32 (0, 0)) (by (with_reducible repeat (first | refine blk_drewN ?_ _ | refine blk_drew ?_ | refine blk_alloc ?_ _)); exact BK1094.out) hg (Kd.R_ne HO_14.out BK1094.out (by decide))); have n1_ := Aside0.mk (blk_grown (g := gb1095) (o := .cells #[.int .i8 a0_0, .int .i8 a0_1, .int .i8 a0_2, .int .i8 a0_3, .int .i8 a0_4, .int .i8 a0_5, .int .i8 a0_6, .int .i8 a0_7, .int .i8 a0_8, .int .i8 a0_9, .int .i8 a0_10, .int .i8 a0_11, .int .i8 a0_12, .int .i8 a0_13, .int .i8 a0_14, .int .i8 a0_15, .int .i8 a0_16, .int .i8 a0_17, .int .i8 a0_18, .int .i8 a0_19, .int .i8 a0_20, .int .i8 a0_21, .int .i8 a0_22, .int .i8 a0_23, .int .i8 a0_24, .int .i8 a0_25, .int .i8 a0_26, .int .i8 a0_27, .slice A0_28 l0_28.length c0_28, .string a1, .string a2, .int .i64 a3] 108 (0, 0)) (by (with_reducible repeat (first | refine blk_drewN ?_ _ | refine blk_drew ?_ | refine blk_alloc ?_ _)); exact BK1095.out) hg (Kd.R_ne HO_14.out BK1095.out (by decide))); have n2_ := Aside0.mk (Kd.R_after (ok := (fun _ => True)) (by (with_reducible repeat (first | apply Kd.R_alloc | apply Kd.R_drewN | apply Kd.R_drew)); exact HO1102.out) hg hat); have n3_ := Aside0.mk (hb); have n4_ := Aside0.mk (ho); clear BK1094; clear BK1095; clear HO1102; clear HB; clear HO_14; have BK1094 := n0_; have BK1095 := n1_; have HO1102 := n2_; have HB := n3_; have HO1106 := n4_; clear n0_ n1_ n2_ n3_ n4_; clear ho hb hg hat))
              go_roundg k1
              case measure => have := HK1.out; omega
              case rel => exact ⟨(y1104), ((x15_1 + 1) % 256), (by first | rfl | (simp; done) | (simp [*]; done)), H', ⟨by have := HK1.out; omega⟩, ⟨by (with_reducible repeat (first | apply Kd.R_alloc | apply Kd.R_drewN | apply Kd.R_drew)); exact Kd.R_mono HO1106.out (fun _ hk => trivial)⟩, ⟨by (with_reducible repeat (first | refine blk_drewN ?_ _ | refine blk_drew ?_ | refine blk_alloc ?_ _)); exact BK1094.out⟩, ⟨by (with_reducible repeat (first | refine blk_drewN ?_ _ | refine blk_drew ?_ | refine blk_alloc ?_ _)); exact BK1095.out⟩, ⟨by repeat (first | (with_reducible first | exact HB.out | apply below_alloc | apply pw_below_drewN | apply below_drew1 | refine below_set ?_ GE1094.out | refine below_set ?_ GE1095.out) | exact HB.out)⟩⟩
            · rw [if_neg c17] at H
              exact absurd H (by simp)
          · replace c16 := Bool.eq_false_iff.mpr c16
            subst c16
            have H1 : (impl_FillLetter.l0 k1 a4 x14_1 ((x15_1 + 1) % 256) a0_0 a0_1 a0_2 a0_3 a0_4 a0_5 a0_6 a0_7 a0_8 a0_9 a0_10 a0_11 a0_12 a0_13 a0_14 a0_15 a0_16 a0_17 a0_18 a0_19 a0_20 a0_21 a0_22 a0_23 a0_24 a0_25 a0_26 a0_27 l0_28 a1 a2 a3) = some (r1, r2) := by rw [if_neg (show ¬ (false = true) by decide)] at H; exact H
            clear H
            have H := H1
            clear H1
            have H' := Aside0.mk H
            clear H
            go_wp2_with (first | ((with_reducible refine gate_dst (N := 32) rfl ?_); refine wpList_load_mid rfl 108 (.tmp 12) rfl gb1095 0 rfl [.int .i8 a0_0, .int .i8 a0_1, .int .i8 a0_2, .int .i8 a0_3, .int .i8 a0_4, .int .i8 a0_5, .int .i8 a0_6, .int .i8 a0_7, .int .i8 a0_8, .int .i8 a0_9, .int .i8 a0_10, .int .i8 a0_11, .int .i8 a0_12, .int .i8 a0_13, .int .i8 a0_14, .int .i8 a0_15, .int .i8 a0_16, .int .i8 a0_17, .int .i8 a0_18, .int .i8 a0_19, .int .i8 a0_20, .int .i8 a0_21, .int .i8 a0_22, .int .i8 a0_23, .int .i8 a0_24, .int .i8 a0_25, .int .i8 a0_26, .int .i8 a0_27, .slice A0_28 l0_28.length c0_28, .string a1, .string a2, .int .i64 a3] _ (range_partx_ [] [.int .i8 a0_0, .int .i8 a0_1, .int .i8 a0_2, .int .i8 a0_3, .int .i8 a0_4, .int .i8 a0_5, .int .i8 a0_6, .int .i8 a0_7, .int .i8 a0_8, .int .i8 a0_9, .int .i8 a0_10, .int .i8 a0_11, .int .i8 a0_12, .int .i8 a0_13, .int .i8 a0_14, .int .i8 a0_15, .int .i8 a0_16, .int .i8 a0_17, .int .i8 a0_18, .int .i8 a0_19, .int .i8 a0_20, .int .i8 a0_21, .int .i8 a0_22, .int .i8 a0_23, .int .i8 a0_24, .int .i8 a0_25, .int .i8 a0_26, .int .i8 a0_27, .slice A0_28 l0_28.length c0_28, .string a1, .string a2, .int .i64 a3] [] 0 rfl (by (with_reducible repeat (first | refine blk_drewN ?_ _ | refine blk_drew ?_ | refine blk_alloc ?_ _)); exact BK1095.out)) Tryd.underlying108 rfl (by exact (show (Tryd.prog.info? 108).map (·.size) = some 32 by kernel_rfl)) ?_) | ((with_reducible refine gate_dst (N := 34) rfl ?_); refine Kd.R_lit (Kd.int .u8) _ 5 ?hg (N := 34) ?hd (xs := ([x15_1] : List Int)) (inner := [.int .u8 x15_1]) (ok := fun _ => True) (okp := fun _ => True) ?hr ?hp (fun _ hk => hk) trivial (Below.refl _ _) (Nat.le_refl _) (by simp) ?_; (case hd => rfl); (case hg => rfl); (case hr => first | (go_simp; done) | (go_simp; rfl)); (case hp => exact (Reps.one (show Kd.M (Kd.int .u8) _ _ _ x15_1 [.int .u8 x15_1] from rfl) (Reps.none _ _))); intro v1101 w23 ho24 hb hg_ hnew_; clear hg_ hnew_; (first | rw [← Ny1100.out] at ho24 | (simp only [Int.reduceToNat] at ho24; rw [← Ny1100.out] at ho24)); have n0_ := Aside0.mk (Kd.R_elder' (by (with_reducible repeat (first | apply Kd.R_alloc | apply Kd.R_drewN | apply Kd.R_drew)); exact HO_14.out) (Kd.R_base ho24) hb); have n1_ := Aside0.mk (Kd.R_lower (Kd.R_new' ho24 (Kd.R_lt (by (with_reducible repeat (first | apply Kd.R_alloc | apply Kd.R_drewN | apply Kd.R_drew)); exact HO_14.out))) (below_size (by repeat (first | (with_reducible first | exact HB.out | apply below_alloc | apply pw_below_drewN | apply below_drew1 | refine below_set ?_ GE1094.out | refine below_set ?_ GE1095.out) | exact HB.out)))); have n2_ := Aside0.mk (blk_below (g := gb1094) (o := .cells #[.int .i8 a0_0, .int .i8 a0_1, .int .i8 a0_2, .int .i8 a0_3, .int .i8 a0_4, .int .i8 a0_5, .int .i8 a0_6, .int .i8 a0_7, .int .i8 a0_8, .int .i8 a0_9, .int .i8 a0_10, .int .i8 a0_11, .int .i8 a0_12, .int .i8 a0_13, .int .i8 a0_14, .int .i8 a0_15, .int .i8 a0_16, .int .i8 a0_17, .int .i8 a0_18, .int .i8 a0_19, .int .i8 a0_20, .int .i8 a0_21, .int .i8 a0_22, .int .i8 a0_23, .int .i8 a0_24, .int .i8 a0_25, .int .i8 a0_26, .int .i8 a0_27, .slice A0_28 l0_28.length c0_28] 32 (0, 0)) (by (with_reducible repeat (first | refine blk_drewN ?_ _ | refine blk_drew ?_ | refine blk_alloc ?_ _)); exact BK1094.out) hb); have n3_ := Aside0.mk (blk_below (g := gb1095) (o := .cells #[.int .i8 a0_0, .int .i8 a0_1, .int .i8 a0_2, .int .i8 a0_3, .int .i8 a0_4, .int .i8 a0_5, .int .i8 a0_6, .int .i8 a0_7, .int .i8 a0_8, .int .i8 a0_9, .int .i8 a0_10, .int .i8 a0_11, .int .i8 a0_12, .int .i8 a0_13, .int .i8 a0_14, .int .i8 a0_15, .int .i8 a0_16, .int .i8 a0_17, .int .i8 a0_18, .int .i8 a0_19, .int .i8 a0_20, .int .i8 a0_21, .int .i8 a0_22, .int .i8 a0_23, .int .i8 a0_24, .int .i8 a0_25, .int .i8 a0_26, .int .i8 a0_27, .slice A0_28 l0_28.length c0_28, .string a1, .string a2, .int .i64 a3] 108 (0, 0)) (by (with_reducible repeat (first | refine blk_drewN ?_ _ | refine blk_drew ?_ | refine blk_alloc ?_ _)); exact BK1095.out) hb); have n4_ := Aside0.mk (below_step (by repeat (first | (with_reducible first | exact HB.out | apply below_alloc | apply pw_below_drewN | apply below_drew1 | refine below_set ?_ GE1094.out | refine below_set ?_ GE1095.out) | exact HB.out)) hb); clear HO_14; clear BK1094; clear BK1095; clear HB; have HO_14 := n0_; have HO1102 := n1_; have BK1094 := n2_; have BK1095 := n3_; have HB := n4_; clear n0_ n1_ n2_ n3_ n4_; clear hb ho24; have hcv25 := own_string (P := Tryd.prog) Tryd.underlying105 Tryd.underlying5 Tryd.underlying9 (Kd.own_of_R HO1102.out)) | ((with_reducible refine gate_callee (f := 91) rfl ?_); refine goesL_ (some 37) rfl rfl Tryd.func91 (by kernel_rfl) rfl #[.agg #[.int .i8 a0_0, .int .i8 a0_1, .int .i8 a0_2, .int .i8 a0_3, .int .i8 a0_4, .int .i8 a0_5, .int .i8 a0_6, .int .i8 a0_7, .int .i8 a0_8, .int .i8 a0_9, .int .i8 a0_10, .int .i8 a0_11, .int .i8 a0_12, .int .i8 a0_13, .int .i8 a0_14, .int .i8 a0_15, .int .i8 a0_16, .int .i8 a0_17, .int .i8 a0_18, .int .i8 a0_19, .int .i8 a0_20, .int .i8 a0_21, .int .i8 a0_22, .int .i8 a0_23, .int .i8 a0_24, .int .i8 a0_25, .int .i8 a0_26, .int .i8 a0_27, .slice A0_28 l0_28.length c0_28, .string a1, .string a2, .int .i64 a3], .string (strOfNums y1100), .int .i64 a4] rfl (by (try simp only [List.map_toArray, List.map_cons, List.map_nil]); first | done | rfl | (simp only [List.length_drop, List.length_take]; rfl)) ?_; (with_reducible refine (impl_gapLine_fits.calls k1 a0_0 a0_1 a0_2 a0_3 a0_4 a0_5 a0_6 a0_7 a0_8 a0_9 a0_10 a0_11 a0_12 a0_13 a0_14 a0_15 a0_16 a0_17 a0_18 a0_19 a0_20 a0_21 a0_22 a0_23 a0_24 a0_25 a0_26 a0_27 _ _ l0_28 a1 a2 a3 (strOfNums y1100) a4 false _ ?side1 ?side2 ?sideG A15.out).mono ?_); (case sideG => first | exact HG.out.below (by repeat (first | (with_reducible first | exact HB.out | apply below_alloc | apply pw_below_drewN | apply below_drew1) | exact HB.out)) | exact (HG.out.below (by repeat (first | (with_reducible first | exact HB.out | apply below_alloc | apply pw_below_drewN | apply below_drew1) | exact HB.out))).toM); (case side1 => repeat (first | exact (Kd.C_below HR0_28.out HB.out) | (with_reducible refine Kd.C_alloc ?_ _) | (with_reducible refine Kd.C_drewN ?_ _) | (with_reducible refine Kd.C_drew ?_))); (case side2 => exact HC0_28.out); rintro e w26 ⟨rfl, hb⟩; refine ⟨_, rfl, ?_⟩; have n0_ := Aside0.mk (Kd.R_below (by (with_reducible repeat (first | apply Kd.R_alloc | apply Kd.R_drewN | apply Kd.R_drew)); exact HO_14.out) hb); have n1_ := Aside0.mk (Kd.R_below (by (with_reducible repeat (first | apply Kd.R_alloc | apply Kd.R_drewN | apply Kd.R_drew)); exact HO1102.out) hb); have n2_ := Aside0.mk (blk_below (g := gb1094) (o := .cells #[.int .i8 a0_0, .int .i8 a0_1, .int .i8 a0_2, .int .i8 a0_3, .int .i8 a0_4, .int .i8 a0_5, .int .i8 a0_6, .int .i8 a0_7, .int .i8 a0_8, .int .i8 a0_9, .int .i8 a0_10, .int .i8 a0_11, .int .i8 a0_12, .int .i8 a0_13, .int .i8 a0_14, .int .i8 a0_15, .int .i8 a0_16, .int .i8 a0_17, .int .i8 a0_18, .int .i8 a0_19, .int .i8 a0_20, .int .i8 a0_21, .int .i8 a0_22, .int .i8 a0_23, .int .i8 a0_24, .int .i8 a0_25, .int .i8 a0_26, .int .i8 a0_27, .slice A0_28 l0_28.length c0_28] 32 (0, 0)) (by (with_reducible repeat (first | refine blk_drewN ?_ _ | refine blk_drew ?_ | refine blk_alloc ?_ _)); exact BK1094.out) hb); have n3_ := Aside0.mk (blk_below (g := gb1095) (o := .cells #[.int .i8 a0_0, .int .i8 a0_1, .int .i8 a0_2, .int .i8 a0_3, .int .i8 a0_4, .int .i8 a0_5, .int .i8 a0_6, .int .i8 a0_7, .int .i8 a0_8, .int .i8 a0_9, .int .i8 a0_10, .int .i8 a0_11, .int .i8 a0_12, .int .i8 a0_13, .int .i8 a0_14, .int .i8 a0_15, .int .i8 a0_16, .int .i8 a0_17, .int .i8 a0_18, .int .i8 a0_19, .int .i8 a0_20, .int .i8 a0_21, .int .i8 a0_22, .int .i8 a0_23, .int .i8 a0_24, .int .i8 a0_25, .int .i8 a0_26, .int .i8 a0_27, .slice A0_28 l0_28.length c0_28, .string a1, .string a2, .int .i64 a3] 108 (0, 0)) (by (with_reducible repeat (first | refine blk_drewN ?_ _ | refine blk_drew ?_ | refine blk_alloc ?_ _)); exact BK1095.out) hb); have n4_ := Aside0.mk (below_step (by repeat (first | (with_reducible first | exact HB.out | apply below_alloc | apply pw_below_drewN | apply below_drew1 | refine below_set ?_ GE1094.out | refine below_set ?_ GE1095.out) | exact HB.out)) hb); clear HO_14; clear HO1102; clear BK1094; clear BK1095; clear HB; have HO_14 := n0_; have HO1102 := n1_; have BK1094 := n2_; have BK1095 := n3_; have HB := n4_; clear n0_ n1_ n2_ n3_ n4_; (try clear hb); (try clear hb2); (try clear hk); (try clear hi)))
            go_roundg k1
            case measure => have := HK1.out; omega
            case rel => exact ⟨(x14_1), ((x15_1 + 1) % 256), (by first | rfl | (simp; done) | (simp [*]; done)), H', ⟨by have := HK1.out; omega⟩, ⟨by (with_reducible repeat (first | apply Kd.R_alloc | apply Kd.R_drewN | apply Kd.R_drew)); exact Kd.R_mono HO_14.out (fun _ hk => trivial)⟩, ⟨by (with_reducible repeat (first | refine blk_drewN ?_ _ | refine blk_drew ?_ | refine blk_alloc ?_ _)); exact BK1094.out⟩, ⟨by (with_reducible repeat (first | refine blk_drewN ?_ _ | refine blk_drew ?_ | refine blk_alloc ?_ _)); exact BK1095.out⟩, ⟨by repeat (first | (with_reducible first | exact HB.out | apply below_alloc | apply pw_below_drewN | apply below_drew1 | refine below_set ?_ GE1094.out | refine below_set ?_ GE1095.out) | exact HB.out)⟩⟩
        · rw [if_neg c14] at H
          have c14b0 : decide (x15_1 ≤ 90) = false := decide_eq_false c14
          clear c14
          simp only [Option.some.injEq, Prod.mk.injEq] at H
          obtain ⟨rfl, rfl⟩ := H
          have hcv27 := own_string (P := Tryd.prog) Tryd.underlying105 Tryd.underlying5 Tryd.underlying9 (Kd.own_of_R HO_14.out)
          go_wp2
          go_ret2
          exact ⟨by first | rfl | (simp [errW_none, errW_some] <;> rfl) | (simp [*, errW_none, errW_some] <;> rfl), by repeat (first | (with_reducible first | exact HB.out | apply below_alloc | apply pw_below_drewN | apply below_drew1 | refine below_set ?_ GE1094.out | refine below_set ?_ GE1095.out) | exact HB.out)⟩
  · rw [if_neg c7] at H
    have c7b0 : (t1096 == 0) = false := beq_eq_false_iff_ne.mpr c7
    have c7b1 : (t1096 != 0) = true := bne_iff_ne.mpr c7
    simp only [Option.some.injEq, Prod.mk.injEq] at H
    obtain ⟨rfl, rfl⟩ := H
    go_enter Tryd.func38, Tryd.ntmps38
    go_wp2_with (first | ((with_reducible refine gate_dst (N := 5) rfl ?_); refine box_event ?hg (N := 5) ?hd (cs := #[.int .i8 a0_0, .int .i8 a0_1, .int .i8 a0_2, .int .i8 a0_3, .int .i8 a0_4, .int .i8 a0_5, .int .i8 a0_6, .int .i8 a0_7, .int .i8 a0_8, .int .i8 a0_9, .int .i8 a0_10, .int .i8 a0_11, .int .i8 a0_12, .int .i8 a0_13, .int .i8 a0_14, .int .i8 a0_15, .int .i8 a0_16, .int .i8 a0_17, .int .i8 a0_18, .int .i8 a0_19, .int .i8 a0_20, .int .i8 a0_21, .int .i8 a0_22, .int .i8 a0_23, .int .i8 a0_24, .int .i8 a0_25, .int .i8 a0_26, .int .i8 a0_27, .slice A0_28 l0_28.length c0_28]) (t := 32) ?hr ?_; (case hd => rfl); (case hg => rfl); (case hr => first | (go_simp; done) | (go_simp; rfl)); intro gb1094 hg w28 hbox hb; have n0_ := Aside0.mk (below_step (by repeat (first | (with_reducible first | exact HB.out | apply below_alloc | apply pw_below_drewN | apply below_drew1) | exact HB.out)) hb); have n1_ := Aside0.mk (hbox); have n2_ := Aside0.mk ((by rw [hg]; exact (below_size (by repeat (first | (with_reducible first | exact HB.out | apply below_alloc | apply pw_below_drewN | apply below_drew1) | exact HB.out))) : w.heap.size ≤ gb1094)); have n3_ := Aside0.mk ((by rw [hg]; exact (below_size (by repeat (first | (with_reducible first | exact HB.out | apply below_alloc | apply pw_below_drewN | apply below_drew1) | exact HB.out))) : w.heap.size ≤ gb1094)); clear HB; have HB := n0_; have BK1094 := n1_; have GW1094 := n2_; have GE1094 := n3_; clear n0_ n1_ n2_ n3_; clear hb hbox hg) | ((with_reducible refine gate_dst (N := 16) rfl ?_); refine wpList_load_mid rfl 32 (.tmp 5) rfl gb1094 0 rfl [.int .i8 a0_0, .int .i8 a0_1, .int .i8 a0_2, .int .i8 a0_3, .int .i8 a0_4, .int .i8 a0_5, .int .i8 a0_6, .int .i8 a0_7, .int .i8 a0_8, .int .i8 a0_9, .int .i8 a0_10, .int .i8 a0_11, .int .i8 a0_12, .int .i8 a0_13, .int .i8 a0_14, .int .i8 a0_15, .int .i8 a0_16, .int .i8 a0_17, .int .i8 a0_18, .int .i8 a0_19, .int .i8 a0_20, .int .i8 a0_21, .int .i8 a0_22, .int .i8 a0_23, .int .i8 a0_24, .int .i8 a0_25, .int .i8 a0_26, .int .i8 a0_27, .slice A0_28 l0_28.length c0_28] _ (range_partx_ [] [.int .i8 a0_0, .int .i8 a0_1, .int .i8 a0_2, .int .i8 a0_3, .int .i8 a0_4, .int .i8 a0_5, .int .i8 a0_6, .int .i8 a0_7, .int .i8 a0_8, .int .i8 a0_9, .int .i8 a0_10, .int .i8 a0_11, .int .i8 a0_12, .int .i8 a0_13, .int .i8 a0_14, .int .i8 a0_15, .int .i8 a0_16, .int .i8 a0_17, .int .i8 a0_18, .int .i8 a0_19, .int .i8 a0_20, .int .i8 a0_21, .int .i8 a0_22, .int .i8 a0_23, .int .i8 a0_24, .int .i8 a0_25, .int .i8 a0_26, .int .i8 a0_27, .slice A0_28 l0_28.length c0_28] [] 0 rfl (by (with_reducible repeat (first | refine blk_drewN ?_ _ | refine blk_drew ?_ | refine blk_alloc ?_ _)); exact BK1094.out)) Tryd.underlying32 rfl (by exact (show (Tryd.prog.info? 32).map (·.size) = some 29 by kernel_rfl)) ?_) | ((with_reducible refine gate_dst (N := 12) rfl ?_); refine box_event ?hg (N := 12) ?hd (cs := #[.int .i8 0, .int .i8 0, .int .i8 0, .int .i8 0, .int .i8 0, .int .i8 0, .int .i8 0, .int .i8 0, .int .i8 0, .int .i8 0, .int .i8 0, .int .i8 0, .int .i8 0, .int .i8 0, .int .i8 0, .int .i8 0, .int .i8 0, .int .i8 0, .int .i8 0, .int .i8 0, .int .i8 0, .int .i8 0, .int .i8 0, .int .i8 0, .int .i8 0, .int .i8 0, .int .i8 0, .int .i8 0, .slice none 0 0, .string (⟨#[]⟩ : ByteArray), .string (⟨#[]⟩ : ByteArray), .int .i64 0]) (t := 108) ?hr ?_; (case hd => rfl); (case hg => rfl); (case hr => first | (go_simp; done) | (go_simp; rfl)); intro gb1095 hg w29 hbox hb; have n0_ := Aside0.mk (blk_below (g := gb1094) (o := .cells #[.int .i8 a0_0, .int .i8 a0_1, .int .i8 a0_2, .int .i8 a0_3, .int .i8 a0_4, .int .i8 a0_5, .int .i8 a0_6, .int .i8 a0_7, .int .i8 a0_8, .int .i8 a0_9, .int .i8 a0_10, .int .i8 a0_11, .int .i8 a0_12, .int .i8 a0_13, .int .i8 a0_14, .int .i8 a0_15, .int .i8 a0_16, .int .i8 a0_17, .int .i8 a0_18, .int .i8 a0_19, .int .i8 a0_20, .int .i8 a0_21, .int .i8 a0_22, .int .i8 a0_23, .int .i8 a0_24, .int .i8 a0_25, .int .i8 a0_26, .int .i8 a0_27, .slice A0_28 l0_28.length c0_28] 32 (0, 0)) (by (with_reducible repeat (first | refine blk_drewN ?_ _ | refine blk_drew ?_ | refine blk_alloc ?_ _)); exact BK1094.out) hb); have n1_ := Aside0.mk (below_step (by repeat (first | (with_reducible first | exact HB.out | apply below_alloc | apply pw_below_drewN | apply below_drew1 | refine below_set ?_ GE1094.out) | exact HB.out)) hb); have n2_ := Aside0.mk (hbox); have n3_ := Aside0.mk ((by rw [hg]; exact (below_size (by repeat (first | (with_reducible first | exact HB.out | apply below_alloc | apply pw_below_drewN | apply below_drew1 | refine below_set ?_ GE1094.out) | exact HB.out))) : w.heap.size ≤ gb1095)); have n4_ := Aside0.mk ((by rw [hg]; exact (below_size (by repeat (first | (with_reducible first | exact HB.out | apply below_alloc | apply pw_below_drewN | apply below_drew1 | refine below_set ?_ GE1094.out) | exact HB.out))) : w.heap.size ≤ gb1095)); have n5_ := Aside0.mk ((by rw [hg]; exact Nat.ne_of_lt (blk_lt (g := gb1094) (o := .cells #[.int .i8 a0_0, .int .i8 a0_1, .int .i8 a0_2, .int .i8 a0_3, .int .i8 a0_4, .int .i8 a0_5, .int .i8 a0_6, .int .i8 a0_7, .int .i8 a0_8, .int .i8 a0_9, .int .i8 a0_10, .int .i8 a0_11, .int .i8 a0_12, .int .i8 a0_13, .int .i8 a0_14, .int .i8 a0_15, .int .i8 a0_16, .int .i8 a0_17, .int .i8 a0_18, .int .i8 a0_19, .int .i8 a0_20, .int .i8 a0_21, .int .i8 a0_22, .int .i8 a0_23, .int .i8 a0_24, .int .i8 a0_25, .int .i8 a0_26, .int .i8 a0_27, .slice A0_28 l0_28.length c0_28] 32 (0, 0)) (by (with_reducible repeat (first | refine blk_drewN ?_ _ | refine blk_drew ?_ | refine blk_alloc ?_ _)); exact BK1094.out)) : gb1094 ≠ gb1095)); have n6_ := Aside0.mk ((by rw [hg]; exact Nat.ne_of_gt (blk_lt (g := gb1094) (o := .cells #[.int .i8 a0_0, .int .i8 a0_1, .int .i8 a0_2, .int .i8 a0_3, .int .i8 a0_4, .int .i8 a0_5, .int .i8 a0_6, .int .i8 a0_7, .int .i8 a0_8, .int .i8 a0_9, .int .i8 a0_10, .int .i8 a0_11, .int .i8 a0_12, .int .i8 a0_13, .int .i8 a0_14, .int .i8 a0_15, .int .i8 a0_16, .int .i8 a0_17, .int .i8 a0_18, .int .i8 a0_19, .int .i8 a0_20, .int .i8 a0_21, .int .i8 a0_22, .int .i8 a0_23, .int .i8 a0_24, .int .i8 a0_25, .int .i8 a0_26, .int .i8 a0_27, .slice A0_28 l0_28.length c0_28] 32 (0, 0)) (by (with_reducible repeat (first | refine blk_drewN ?_ _ | refine blk_drew ?_ | refine blk_alloc ?_ _)); exact BK1094.out)) : gb1095 ≠ gb1094)); clear BK1094; clear HB; have BK1094 := n0_; have HB := n1_; have BK1095 := n2_; have GW1095 := n3_; have GE1095 := n4_; have NB1094_1095 := n5_; have NB1095_1094 := n6_; clear n0_ n1_ n2_ n3_ n4_ n5_ n6_; clear hb hbox hg) | ((with_reducible refine gate_store (t := 108) (p := 12) rfl ?_); refine ev_store_partx_ rfl 108 (.tmp 12) (.tmp 20) rfl rfl gb1095 0 [] [.int .i8 0, .int .i8 0, .int .i8 0, .int .i8 0, .int .i8 0, .int .i8 0, .int .i8 0, .int .i8 0, .int .i8 0, .int .i8 0, .int .i8 0, .int .i8 0, .int .i8 0, .int .i8 0, .int .i8 0, .int .i8 0, .int .i8 0, .int .i8 0, .int .i8 0, .int .i8 0, .int .i8 0, .int .i8 0, .int .i8 0, .int .i8 0, .int .i8 0, .int .i8 0, .int .i8 0, .int .i8 0, .slice none 0 0, .string (⟨#[]⟩ : ByteArray), .string (⟨#[]⟩ : ByteArray), .int .i64 0] [.int .i8 a0_0, .int .i8 a0_1, .int .i8 a0_2, .int .i8 a0_3, .int .i8 a0_4, .int .i8 a0_5, .int .i8 a0_6, .int .i8 a0_7, .int .i8 a0_8, .int .i8 a0_9, .int .i8 a0_10, .int .i8 a0_11, .int .i8 a0_12, .int .i8 a0_13, .int .i8 a0_14, .int .i8 a0_15, .int .i8 a0_16, .int .i8 a0_17, .int .i8 a0_18, .int .i8 a0_19, .int .i8 a0_20, .int .i8 a0_21, .int .i8 a0_22, .int .i8 a0_23, .int .i8 a0_24, .int .i8 a0_25, .int .i8 a0_26, .int .i8 a0_27, .slice A0_28 l0_28.length c0_28, .string a1, .string a2, .int .i64 a3] [] rfl rfl 108 rfl rfl (by (with_reducible repeat (first | refine blk_drewN ?_ _ | refine blk_drew ?_ | refine blk_alloc ?_ _)); exact BK1095.out) (by exact (show (Tryd.prog.info? 108).map (·.size) = some 32 by kernel_rfl)) rfl ?_; intro w30 hblk hkep hbel; have n0_ := Aside0.mk ((show w30.heap[gb1095]? = some (.cells #[.int .i8 a0_0, .int .i8 a0_1, .int .i8 a0_2, .int .i8 a0_3, .int .i8 a0_4, .int .i8 a0_5, .int .i8 a0_6, .int .i8 a0_7, .int .i8 a0_8, .int .i8 a0_9, .int .i8 a0_10, .int .i8 a0_11, .int .i8 a0_12, .int .i8 a0_13, .int .i8 a0_14, .int .i8 a0_15, .int .i8 a0_16, .int .i8 a0_17, .int .i8 a0_18, .int .i8 a0_19, .int .i8 a0_20, .int .i8 a0_21, .int .i8 a0_22, .int .i8 a0_23, .int .i8 a0_24, .int .i8 a0_25, .int .i8 a0_26, .int .i8 a0_27, .slice A0_28 l0_28.length c0_28, .string a1, .string a2, .int .i64 a3] 108 (0, 0)) from hblk)); have n1_ := Aside0.mk (blk_kept (by (with_reducible repeat (first | refine blk_drewN ?_ _ | refine blk_drew ?_ | refine blk_alloc ?_ _)); exact BK1094.out) hkep (fun e_ => NB1094_1095.out e_)); have n2_ := Aside0.mk ((show Below w.heap.size w w30 from Below.trans (by repeat (first | (with_reducible first | exact HB.out | apply below_alloc | apply pw_below_drewN | apply below_drew1 | refine below_set ?_ GE1094.out | refine below_set ?_ GE1095.out) | exact HB.out)) (hbel _ GW1095.out))); clear BK1095; clear BK1094; clear HB; have BK1095 := n0_; have BK1094 := n1_; have HB := n2_; clear n0_ n1_ n2_; clear hblk hkep hbel) | ((with_reducible refine gate_dst (N := 21) rfl ?_); refine wpList_load_mid rfl 108 (.tmp 12) rfl gb1095 0 rfl [.int .i8 a0_0, .int .i8 a0_1, .int .i8 a0_2, .int .i8 a0_3, .int .i8 a0_4, .int .i8 a0_5, .int .i8 a0_6, .int .i8 a0_7, .int .i8 a0_8, .int .i8 a0_9, .int .i8 a0_10, .int .i8 a0_11, .int .i8 a0_12, .int .i8 a0_13, .int .i8 a0_14, .int .i8 a0_15, .int .i8 a0_16, .int .i8 a0_17, .int .i8 a0_18, .int .i8 a0_19, .int .i8 a0_20, .int .i8 a0_21, .int .i8 a0_22, .int .i8 a0_23, .int .i8 a0_24, .int .i8 a0_25, .int .i8 a0_26, .int .i8 a0_27, .slice A0_28 l0_28.length c0_28, .string a1, .string a2, .int .i64 a3] _ (range_partx_ [] [.int .i8 a0_0, .int .i8 a0_1, .int .i8 a0_2, .int .i8 a0_3, .int .i8 a0_4, .int .i8 a0_5, .int .i8 a0_6, .int .i8 a0_7, .int .i8 a0_8, .int .i8 a0_9, .int .i8 a0_10, .int .i8 a0_11, .int .i8 a0_12, .int .i8 a0_13, .int .i8 a0_14, .int .i8 a0_15, .int .i8 a0_16, .int .i8 a0_17, .int .i8 a0_18, .int .i8 a0_19, .int .i8 a0_20, .int .i8 a0_21, .int .i8 a0_22, .int .i8 a0_23, .int .i8 a0_24, .int .i8 a0_25, .int .i8 a0_26, .int .i8 a0_27, .slice A0_28 l0_28.length c0_28, .string a1, .string a2, .int .i64 a3] [] 0 rfl (by (with_reducible repeat (first | refine blk_drewN ?_ _ | refine blk_drew ?_ | refine blk_alloc ?_ _)); exact BK1095.out)) Tryd.underlying108 rfl (by exact (show (Tryd.prog.info? 108).map (·.size) = some 32 by kernel_rfl)) ?_) | ((with_reducible refine gate_callee (f := 90) rfl ?_); refine goesL_ (some 23) rfl rfl Tryd.func90 (by kernel_rfl) rfl #[.agg #[.int .i8 a0_0, .int .i8 a0_1, .int .i8 a0_2, .int .i8 a0_3, .int .i8 a0_4, .int .i8 a0_5, .int .i8 a0_6, .int .i8 a0_7, .int .i8 a0_8, .int .i8 a0_9, .int .i8 a0_10, .int .i8 a0_11, .int .i8 a0_12, .int .i8 a0_13, .int .i8 a0_14, .int .i8 a0_15, .int .i8 a0_16, .int .i8 a0_17, .int .i8 a0_18, .int .i8 a0_19, .int .i8 a0_20, .int .i8 a0_21, .int .i8 a0_22, .int .i8 a0_23, .int .i8 a0_24, .int .i8 a0_25, .int .i8 a0_26, .int .i8 a0_27, .slice A0_28 l0_28.length c0_28, .string a1, .string a2, .int .i64 a3], .slice none 0 0, .int .i64 a4] rfl (by (try simp only [List.map_toArray, List.map_cons, List.map_nil]); first | done | rfl | (simp only [List.length_drop, List.length_take]; rfl)) ?_; (refine (impl_gapCode.calls k a0_0 a0_1 a0_2 a0_3 a0_4 a0_5 a0_6 a0_7 a0_8 a0_9 a0_10 a0_11 a0_12 a0_13 a0_14 a0_15 a0_16 a0_17 a0_18 a0_19 a0_20 a0_21 a0_22 a0_23 a0_24 a0_25 a0_26 a0_27 _ _ l0_28 a1 a2 a3 _ _ ([] : List ByteArray) a4 t1096 _ ?side1 ?side2 ?side3 ?side4 ?sideG A6.out).mono ?_); (case sideG => first | exact HG.out.below (by repeat (first | (with_reducible first | exact HB.out | apply below_alloc | apply pw_below_drewN | apply below_drew1) | exact HB.out)) | exact (HG.out.below (by repeat (first | (with_reducible first | exact HB.out | apply below_alloc | apply pw_below_drewN | apply below_drew1) | exact HB.out))).toM); (case side1 => repeat (first | exact (Kd.C_below HR0_28.out HB.out) | (with_reducible refine Kd.C_alloc ?_ _) | (with_reducible refine Kd.C_drewN ?_ _) | (with_reducible refine Kd.C_drew ?_))); (case side2 => exact HC0_28.out); (case side3 => exact Kd.C_nil _ _); (case side4 => exact Nat.le_refl _); rintro e w31 ⟨rfl, hb⟩; refine ⟨_, rfl, ?_⟩; have n0_ := Aside0.mk (blk_below (g := gb1094) (o := .cells #[.int .i8 a0_0, .int .i8 a0_1, .int .i8 a0_2, .int .i8 a0_3, .int .i8 a0_4, .int .i8 a0_5, .int .i8 a0_6, .int .i8 a0_7, .int .i8 a0_8, .int .i8 a0_9, .int .i8 a0_10, .int .i8 a0_11, .int .i8 a0_12, .int .i8 a0_13, .int .i8 a0_14, .int .i8 a0_15, .int .i8 a0_16, .int .i8 a0_17, .int .i8 a0_18, .int .i8 a0_19, .int .i8 a0_20, .int .i8 a0_21, .int .i8 a0_22, .int .i8 a0_23, .int .i8 a0_24, .int .i8 a0_25, .int .i8 a0_26, .int .i8 a0_27, .slice A0_28 l0_28.length c0_28] 32 (0, 0)) (by (with_reducible repeat (first | refine blk_drewN ?_ _ | refine blk_drew ?_ | refine blk_alloc ?_ _)); exact BK1094.out) hb); have n1_ := Aside0.mk (blk_below (g := gb1095) (o := .cells #[.int .i8 a0_0, .int .i8 a0_1, .int .i8 a0_2, .int .i8 a0_3, .int .i8 a0_4, .int .i8 a0_5, .int .i8 a0_6, .int .i8 a0_7, .int .i8 a0_8, .int .i8 a0_9, .int .i8 a0_10, .int .i8 a0_11, .int .i8 a0_12, .int .i8 a0_13, .int .i8 a0_14, .int .i8 a0_15, .int .i8 a0_16, .int .i8 a0_17, .int .i8 a0_18, .int .i8 a0_19, .int .i8 a0_20, .int .i8 a0_21, .int .i8 a0_22, .int .i8 a0_23, .int .i8 a0_24, .int .i8 a0_25, .int .i8 a0_26, .int .i8 a0_27, .slice A0_28 l0_28.length c0_28, .string a1, .string a2, .int .i64 a3] 108 (0, 0)) (by (with_reducible repeat (first | refine blk_drewN ?_ _ | refine blk_drew ?_ | refine blk_alloc ?_ _)); exact BK1095.out) hb); have n2_ := Aside0.mk (below_step (by repeat (first | (with_reducible first | exact HB.out | apply below_alloc | apply pw_below_drewN | apply below_drew1 | refine below_set ?_ GE1094.out | refine below_set ?_ GE1095.out) | exact HB.out)) hb); clear BK1094; clear BK1095; clear HB; have BK1094 := n0_; have BK1095 := n1_; have HB := n2_; clear n0_ n1_ n2_; (try clear hb); (try clear hb2); (try clear hk); (try clear hi)))
    go_ret2
    exact ⟨by first | rfl | (simp [errW_none, errW_some] <;> rfl) | (simp [*, errW_none, errW_some] <;> rfl), by repeat (first | (with_reducible first | exact HB.out | apply below_alloc | apply pw_below_drewN | apply below_drew1 | refine below_set ?_ GE1094.out | refine below_set ?_ GE1095.out) | exact HB.out)⟩
end Go.Proofs.YticjkfacdmmopaaDoor.Q
namespace Go.Proofs.YticjkfacdmmopaaDoor.Pure
open Go.RowKit Go.Proofs.YticjkfacdmmopaaDoor.Ext Go.Proofs.YticjkfacdmmopaaDoor.Q Go.Proofs.YticjkfacdmmopaaDoor.Txt Go.Proofs.YticjkfacdmmopaaDoor.Face Go.Proofs.YticjkfacdmmopaaDoorW.PrintWords Go.Proofs.YticjkfacdmmopaaDoorW.PrintLast Go.Proofs.YticjkfacdmmopaaDoorW.PrintMore
set_option linter.unusedVariables false
set_option linter.unusedSimpArgs false
set_option maxRecDepth 100000
def spacedB (t : List UInt8) : Bool := t.all okB && noTwo t
def partAt (t : List UInt8) (i : Nat) : Bool := okB (t.getD i 0) && !(t.getD i 0 == 32 && (decide (0 < i) && t.getD (i - 1) 0 == 32))
theorem part_l0 (s : ByteArray) (hs : s.size ≤ 4611686018427387904) : ∀ (d k i : Nat), i + d = s.size → d < k → spec_l04Part.l0 k s i = some ((List.range' i d).all (partAt s.data.toList))
  | 0, k, i, hd, hk => by
    obtain ⟨k, rfl⟩ := some_k hk
    rw [spec_l04Part.l0, if_neg (by omega)]
    rfl
  | d + 1, k, i, hd, hk => by
    obtain ⟨k, rfl⟩ := some_k hk
    have hlen : s.data.toList.length = s.size := data_length s
    have hin : i < s.data.toList.length := by omega
    have ih := part_l0 s hs d k (i + 1) (by omega) (by omega)
    rw [spec_l04Part.l0, if_pos (by omega), if_pos (by omega), wrap_succ i (by omega), ih, letter_eq s i hin, bt_get s i hin, Option.bind_some, range_succ, List.all_cons]
    by_cases h : s.data.toList.getD i 0 = 32
    · rw [if_pos ((is32 _).2 h)]
      have hok : okB (s.data.toList.getD i 0) = true := by unfold okB; rw [h]; rfl
      by_cases h0 : i = 0
      · rw [if_neg (by omega)]
        have e : partAt s.data.toList i = true := by
          unfold partAt
          rw [hok, show decide (0 < i) = false by simp [h0], Bool.false_and, Bool.and_false]; rfl
        rw [e, Bool.true_and]
      · rw [if_pos (by omega), w64 (x := (i : Int) - 1) (by omega) (by omega), if_pos (by omega), if_pos (by omega), show (i : Int) - 1 = ((i - 1 : Nat) : Int) by omega, bt_get s (i - 1) (by omega)]
        have hd0 : decide (0 < i) = true := by simp; omega
        by_cases h1 : s.data.toList.getD (i - 1) 0 = 32
        · rw [if_pos ((is32 _).2 h1)]
          have e : partAt s.data.toList i = false := by
            unfold partAt
            rw [hok, h, h1, hd0]; rfl
          rw [e, Bool.false_and]
        · rw [if_neg (fun hh => h1 ((is32 _).1 hh))]
          have e : partAt s.data.toList i = true := by
            unfold partAt
            rw [hok, show (s.data.toList.getD (i - 1) 0 == 32) = false by simpa using h1, Bool.and_false, Bool.and_false]; rfl
          rw [e, Bool.true_and]
    · rw [if_neg (fun hh => h ((is32 _).1 hh))]
      have h32 : (s.data.toList.getD i 0 == 32) = false := by rw [beq_eq_false_iff_ne]; exact h
      have e : partAt s.data.toList i = (decide (65 ≤ (s.data.toList.getD i 0).toNat) && decide ((s.data.toList.getD i 0).toNat ≤ 90)) := by
        unfold partAt okB
        rw [h32, Bool.or_false, Bool.false_and, Bool.not_false, Bool.and_true]
      rw [e]
      cases (decide (65 ≤ (s.data.toList.getD i 0).toNat) && decide ((s.data.toList.getD i 0).toNat ≤ 90))
      · rw [if_neg (by simp)]; rfl
      · rw [if_pos rfl, Bool.true_and]; split <;> rfl
theorem part_iff (t : List UInt8) : (List.range' 0 t.length).all (partAt t) = spacedB t := by
  unfold spacedB
  rw [Bool.eq_iff_iff, Bool.and_eq_true, noTwo_iff, ← range_all t okB]
  simp only [List.all_eq_true, List.mem_range', Nat.zero_add, Nat.one_mul]
  have hp : ∀ i, partAt t i = true ↔ okB (t.getD i 0) = true ∧ ¬ (t.getD i 0 = 32 ∧ 0 < i ∧ t.getD (i - 1) 0 = 32) := by
    intro i
    unfold partAt
    rw [Bool.and_eq_true]
    refine and_congr_right fun _ => ?_
    rw [Bool.not_eq_true', Bool.eq_false_iff]
    simp
  constructor
  · intro h
    refine ⟨?_, ?_⟩
    · rintro i ⟨j, hj, rfl⟩
      exact ((hp _).1 (h _ ⟨_, hj, rfl⟩)).1
    · rintro i hi ⟨h1, h2⟩
      exact ((hp (i + 1)).1 (h (i + 1) ⟨i + 1, hi, rfl⟩)).2 ⟨h2, by omega, h1⟩
  · rintro ⟨h1, h2⟩ i ⟨j, hj, rfl⟩
    rw [hp]
    refine ⟨h1 _ ⟨_, hj, rfl⟩, ?_⟩
    rintro ⟨h3, h4, h5⟩
    exact h2 (i - 1) (by omega) ⟨h5, by rw [show i - 1 + 1 = i by omega]; exact h3⟩
theorem part_eq (s : ByteArray) (hs : s.size ≤ 1048576) {k : Nat} (hk : 1048576 < k) : spec_l04Part.f k s = some (spacedB s.data.toList) := by
  unfold spec_l04Part.f
  have h := part_l0 s (by omega) s.size k 0 (by omega) (by omega)
  rw [show ((0 : Nat) : Int) = 0 from rfl] at h
  have hlen : s.data.toList.length = s.size := data_length s
  have h2 := part_iff s.data.toList
  rw [hlen] at h2
  rw [h, h2]
theorem isSpaced_eq (s : ByteArray) (hs : s.size ≤ 1048576) {k : Nat} (hk : 1048576 < k) : impl_isSpaced.f k s = some (spacedB s.data.toList) := by
  unfold impl_isSpaced.f
  have h := spaced_l0 s (by omega) s.size k 0 (by omega) (by omega)
  rw [show ((0 : Nat) : Int) = 0 from rfl] at h
  have hlen : s.data.toList.length = s.size := data_length s
  have h2 := range_all s.data.toList okB
  rw [hlen] at h2
  rw [h, h2, contains_two, Bool.not_not]
  rfl
theorem l04Word_eq (s : ByteArray) (hs : s.size ≤ 1048576) {k : Nat} (hk : 1048577 < k) : spec_l04Word.f k s = some (shortB s) := by
  unfold spec_l04Word.f
  rw [in_eq, Option.bind_some]
  have hlen : s.data.toList.length = s.size := data_length s
  cases h : inB (s.size : Int) 1 20
  · rw [if_neg (by simp)]
    congr 1
    symm
    unfold shortB
    rw [Bool.and_eq_false_iff]
    have h' : ¬ (1 ≤ (s.size : Int) ∧ (s.size : Int) ≤ 20) := fun hh => by rw [inB_iff.2 hh] at h; cases h
    by_cases h0 : s.size = 0
    · left
      have : s.data.toList = [] := List.length_eq_zero_iff.1 (by omega)
      rw [this]
      rfl
    · right
      rw [decide_eq_false_iff_not]
      omega
  · have h' := inB_iff.1 h
    rw [if_pos rfl]
    have hw : spec_l01Word.f k s = some (txt s.data.toList && wordB s.data.toList) := by
      unfold spec_l01Word.f
      have h1 := word_l0 s (by omega) s.size k 0 (by omega) (by omega)
      rw [show ((0 : Nat) : Int) = 0 from rfl] at h1
      rw [h1, List.drop_zero]
      congr 1
      rw [Bool.eq_iff_iff, Bool.and_eq_true, Bool.and_eq_true]
      constructor
      · rintro ⟨h2, h3⟩
        have hl : lts s.data.toList := by
          intro b hb
          have := List.all_eq_true.1 h2 b hb
          simpa using this
        have hno : ∀ b ∈ s.data.toList, b ≠ 32 := fun b hb => letter_ok (hl b hb)
        refine ⟨?_, ?_⟩
        · unfold txt
          rw [Bool.and_eq_true, Bool.and_eq_true, Bool.and_eq_true, Bool.and_eq_true]
          refine ⟨⟨by simp; omega, ?_, ?_⟩, ?_, ?_⟩
          · rw [List.all_eq_true]
            intro b hb
            have := hl b hb
            unfold okB
            simp [this]
          · rw [noTwo_iff]
            rintro i hi ⟨h4, _⟩
            exact hno _ (getD_mem (by omega)) h4
          · rw [bne_iff_ne]
            intro hh
            exact hno 32 (List.mem_of_mem_head? hh) rfl
          · rw [bne_iff_ne]
            intro hh
            exact hno 32 (List.mem_of_getLast? hh) rfl
        · unfold wordB
          rw [Bool.and_eq_true]
          refine ⟨?_, ?_⟩
          · rw [bne_iff_ne]
            intro hh
            rw [hh] at hlen
            simp at hlen
            omega
          · rw [List.all_eq_true]
            intro b hb
            simpa using hno b hb
      · rintro ⟨h2, h3⟩
        refine ⟨?_, by simp; omega⟩
        rw [List.all_eq_true]
        intro b hb
        unfold wordB at h3
        rw [Bool.and_eq_true] at h3
        have := (txt_ok h2 b hb).resolve_left (by simpa using List.all_eq_true.1 h3.2 b hb)
        simpa using this
    rw [hw, Option.bind_some]
    unfold shortB
    rw [show decide (s.size ≤ 20) = true by simp; omega, Bool.and_true]
theorem l04List_l0 (l : List ByteArray) (hl : ∀ s ∈ l, s.size ≤ 1048576) (hn : l.length ≤ 1048576) : ∀ (d k i : Nat), i + d = l.length → d + 1048577 < k → spec_l04List.l0 k l i = some ((l.drop i).all shortB && decide (l.length ≤ 12))
  | 0, k, i, hd, hk => by
    obtain ⟨k, rfl⟩ := some_k hk
    rw [spec_l04List.l0, if_neg (by omega), List.drop_eq_nil_of_le (by omega), List.all_nil, Bool.true_and]
    congr 1
    rw [Bool.eq_iff_iff, decide_eq_true_iff, decide_eq_true_iff]
    omega
  | d + 1, k, i, hd, hk => by
    obtain ⟨k, rfl⟩ := some_k hk
    have hi : i < l.length := by omega
    have hg : rdOf ByteArray.empty l (i : Int) = l[i] := by
      unfold rdOf
      rw [Int.toNat_natCast, List.getD_eq_getElem?_getD, List.getElem?_eq_getElem hi]
      rfl
    rw [spec_l04List.l0, if_pos (by omega), if_pos (by omega), hg, l04Word_eq _ (hl _ (List.getElem_mem hi)) (by omega), Option.bind_some, wrap_succ i (by omega), l04List_l0 l hl hn d k (i + 1) (by omega) (by omega), List.drop_eq_getElem_cons hi, List.all_cons]
    cases shortB l[i]
    · rw [if_neg (by simp)]; rfl
    · rw [if_pos rfl, Bool.true_and]
theorem l04List_eq (l : List ByteArray) (hl : ∀ s ∈ l, s.size ≤ 1048576) (hn : l.length ≤ 1048576) {k : Nat} (hk : 2097154 < k) : spec_l04List.f k l = some (listB l) := by
  unfold spec_l04List.f listB
  have h := l04List_l0 l hl hn l.length k 0 (by omega) (by omega)
  rw [show ((0 : Nat) : Int) = 0 from rfl] at h
  rw [h, List.drop_zero, Bool.and_comm]
def gapC (L : List Int) (P : List Pr) (a b : ByteArray) (l : List ByteArray) (n m : Int) : Int :=
  if faceB L P && listB l then (if inB n 0 4000 && inB m 0 100 then (if spacedB a.data.toList && spacedB b.data.toList then 0 else 5) else 2) else 1
theorem gapCode_eq {L : List Int} {P : List Pr} (hl : L.length = 28) (hr : rngB L P = true) (a b : ByteArray) (ha : a.size ≤ 1048576) (hb : b.size ≤ 1048576) (l : List ByteArray) (n m : Int) {k : Nat} (hk : 1048578 < k) : impl_gapCode.f k (rd L 0) (rd L 1) (rd L 2) (rd L 3) (rd L 4) (rd L 5) (rd L 6) (rd L 7) (rd L 8) (rd L 9) (rd L 10) (rd L 11) (rd L 12) (rd L 13) (rd L 14) (rd L 15) (rd L 16) (rd L 17) (rd L 18) (rd L 19) (rd L 20) (rd L 21) (rd L 22) (rd L 23) (rd L 24) (rd L 25) (rd L 26) (rd L 27) P a b n l m = some (gapC L P a b l n m) := by
  obtain ⟨k, rfl⟩ : ∃ k', k = k' + 1 + 1 := ⟨k - 2, by omega⟩
  unfold impl_gapCode.f gapC impl_ValidList.f
  rw [validFace_eq hl hr, Option.bind_some, Option.bind_some]
  cases faceB L P
  · rw [if_neg (by simp), impl_gapCode.j0, if_pos rfl]; rfl
  rw [if_pos rfl, Bool.true_and, impl_gapCode.j0]
  cases listB l
  · rw [if_pos (show (!false) = true from rfl)]; rfl
  rw [if_neg (by simp), if_pos rfl, within_eq, Option.bind_some]
  cases inB n 0 4000
  · rw [if_neg (by simp), impl_gapCode.j1, if_pos rfl]; rfl
  rw [if_pos rfl, within_eq, Option.bind_some, impl_gapCode.j1, Bool.true_and]
  cases inB m 0 100
  · rw [if_pos (show (!false) = true from rfl)]; rfl
  rw [if_neg (by simp), if_pos rfl, isSpaced_eq a ha (by omega), Option.bind_some, isSpaced_eq b hb (by omega)]
  unfold impl_unless.f
  cases spacedB a.data.toList <;> cases spacedB b.data.toList <;> rfl
theorem l04Asked_eq {L : List Int} {P : List Pr} (hl : L.length = 28) (hr : rngB L P = true) (a b : ByteArray) (ha : a.size ≤ 1048576) (hb : b.size ≤ 1048576) (l : List ByteArray) (hls : ∀ s ∈ l, s.size ≤ 1048576) (hn : l.length ≤ 1048576) (n m : Int) {k : Nat} (hk : 2097156 < k) : spec_l04Asked.f k (rd L 0) (rd L 1) (rd L 2) (rd L 3) (rd L 4) (rd L 5) (rd L 6) (rd L 7) (rd L 8) (rd L 9) (rd L 10) (rd L 11) (rd L 12) (rd L 13) (rd L 14) (rd L 15) (rd L 16) (rd L 17) (rd L 18) (rd L 19) (rd L 20) (rd L 21) (rd L 22) (rd L 23) (rd L 24) (rd L 25) (rd L 26) (rd L 27) P a b l n m = some (gapC L P a b l n m) := by
  obtain ⟨k, rfl⟩ : ∃ k', k = k' + 1 + 1 := ⟨k - 2, by omega⟩
  unfold spec_l04Asked.f gapC
  rw [l01Face_eq hl hr, Option.bind_some, l04List_eq l hls hn (by omega), Option.bind_some]
  cases faceB L P
  · rw [if_neg (by simp), spec_l04Asked.j0, if_pos rfl]; rfl
  rw [if_pos rfl, Bool.true_and, spec_l04Asked.j0]
  cases listB l
  · rw [if_pos (show (!false) = true from rfl)]; rfl
  rw [if_neg (by simp), if_pos rfl, room_eq, Option.bind_some]
  cases inB n 0 4000
  · rw [if_neg (by simp), spec_l04Asked.j1, if_pos rfl]; rfl
  rw [if_pos rfl, in_eq, Option.bind_some, spec_l04Asked.j1, Bool.true_and]
  cases inB m 0 100
  · rw [if_pos (show (!false) = true from rfl)]; rfl
  rw [if_neg (by simp), if_pos rfl, part_eq a ha (by omega), Option.bind_some, part_eq b hb (by omega)]
  cases spacedB a.data.toList <;> cases spacedB b.data.toList <;> rfl
theorem gapC_zero {L : List Int} {P : List Pr} {a b : ByteArray} {l : List ByteArray} {n m : Int} (h : gapC L P a b l n m = 0) : faceB L P = true ∧ listB l = true ∧ (0 ≤ n ∧ n ≤ 4000) ∧ (0 ≤ m ∧ m ≤ 100) := by
  unfold gapC at h
  split at h
  · rename_i h1
    rw [Bool.and_eq_true] at h1
    split at h
    · rename_i h2
      rw [Bool.and_eq_true] at h2
      exact ⟨h1.1, h1.2, inB_iff.1 h2.1, inB_iff.1 h2.2⟩
    · omega
  · omega
def offV (L : List Int) (P : List Pr) (T : ByteArray) (n : Int) : Int := if lineOf L P T.data.toList - n < 0 then n - lineOf L P T.data.toList else lineOf L P T.data.toList - n
theorem offV_in {L : List Int} {P : List Pr} (F : FaceOk L P) {T : ByteArray} (h : txt T.data.toList = true) {n : Int} (h0 : 0 ≤ n) (h1 : n ≤ 4000) : 0 ≤ offV L P T n ∧ offV L P T n ≤ 10000 := by
  have := line_room F h
  unfold offV
  split <;> omega
theorem off_eq {L : List Int} {P : List Pr} (F : FaceOk L P) (T : ByteArray) (hT : T.size ≤ 4611686018427387904) (n : Int) (h0 : 0 ≤ n) (h1 : n ≤ 4000) {k : Nat} (hk : T.size + 200 < k) : spec_l04Off.f k (rd L 0) (rd L 1) (rd L 2) (rd L 3) (rd L 4) (rd L 5) (rd L 6) (rd L 7) (rd L 8) (rd L 9) (rd L 10) (rd L 11) (rd L 12) (rd L 13) (rd L 14) (rd L 15) (rd L 16) (rd L 17) (rd L 18) (rd L 19) (rd L 20) (rd L 21) (rd L 22) (rd L 23) (rd L 24) (rd L 25) (rd L 26) (rd L 27) P T n = some (if txt T.data.toList then offV L P T n else -1) := by
  unfold spec_l04Off.f spec_l00Max.f
  rw [text_eq T hT (by omega), Option.bind_some]
  cases ht : txt T.data.toList
  · rw [if_neg (by simp)]; rfl
  · have hr := line_room F ht
    rw [if_pos rfl, words_eq T (txt_size ht) (by omega), Option.bind_some, line_eq F T (txt_size ht) (txt_ok ht) (by omega), Option.bind_some, w64 (x := lineOf L P T.data.toList - n) (by omega) (by omega), w64 (x := -(lineOf L P T.data.toList - n)) (by omega) (by omega), if_pos rfl]
    unfold offV
    split
    · rw [if_neg (by omega), Option.bind_some]
    · split
      · rw [Option.bind_some]; congr 1; omega
      · rw [Option.bind_some]; congr 1; omega
theorem differs_eq {L : List Int} {P : List Pr} (F : FaceOk L P) (a b p : ByteArray) (hs : a.size + p.size + b.size ≤ 9223372036854775807) (n : Int) (h0 : 0 ≤ n) (h1 : n ≤ 4000) {k : Nat} (hk : 140 < k) : impl_gapLine_differs.f k (rd L 0) (rd L 1) (rd L 2) (rd L 3) (rd L 4) (rd L 5) (rd L 6) (rd L 7) (rd L 8) (rd L 9) (rd L 10) (rd L 11) (rd L 12) (rd L 13) (rd L 14) (rd L 15) (rd L 16) (rd L 17) (rd L 18) (rd L 19) (rd L 20) (rd L 21) (rd L 22) (rd L 23) (rd L 24) (rd L 25) (rd L 26) (rd L 27) P a b n p = some (if txt ((a ++ p) ++ b).data.toList then (offV L P ((a ++ p) ++ b) n, true) else (0, false)) := by
  unfold impl_gapLine_differs.f
  rw [if_pos (by omega), if_pos (by rw [ByteArray.size_append]; omega), valid_eq _ (.inr (by omega)), Option.bind_some]
  cases ht : txt ((a ++ p) ++ b).data.toList
  · rw [if_neg (by simp)]; rfl
  · have hr := line_room F ht
    rw [if_pos rfl, fwide_eq F _ (txt_size ht) (txt_ok ht) hk, Option.bind_some, w64 (x := lineOf L P ((a ++ p) ++ b).data.toList - n) (by omega) (by omega), w64 (x := -(lineOf L P ((a ++ p) ++ b).data.toList - n)) (by omega) (by omega), if_pos rfl]
    unfold offV mx
    congr 2
    split <;> split <;> omega
theorem fits_eq {L : List Int} {P : List Pr} (F : FaceOk L P) (a b p : ByteArray) (hs : a.size + p.size + b.size ≤ 9223372036854775807) (n m : Int) (h0 : 0 ≤ n) (h1 : n ≤ 4000) {k : Nat} (hk : 140 < k) : impl_gapLine_fits.f k (rd L 0) (rd L 1) (rd L 2) (rd L 3) (rd L 4) (rd L 5) (rd L 6) (rd L 7) (rd L 8) (rd L 9) (rd L 10) (rd L 11) (rd L 12) (rd L 13) (rd L 14) (rd L 15) (rd L 16) (rd L 17) (rd L 18) (rd L 19) (rd L 20) (rd L 21) (rd L 22) (rd L 23) (rd L 24) (rd L 25) (rd L 26) (rd L 27) P a b n p m = some (txt ((a ++ p) ++ b).data.toList && decide (offV L P ((a ++ p) ++ b) n ≤ m)) := by
  unfold impl_gapLine_fits.f
  rw [differs_eq F a b p hs n h0 h1 hk, Option.bind_some]
  cases ht : txt ((a ++ p) ++ b).data.toList <;> simp
theorem inOff_eq {L : List Int} {P : List Pr} (F : FaceOk L P) (T : ByteArray) (n m : Int) (h0 : 0 ≤ n) (h1 : n ≤ 4000) : inB (if txt T.data.toList then offV L P T n else -1) 0 m = (txt T.data.toList && decide (offV L P T n ≤ m)) := by
  cases ht : txt T.data.toList
  · rw [Bool.false_and, Bool.eq_false_iff]
    intro h
    have := inB_iff.1 h
    simp at this
  · have := offV_in F ht h0 h1
    rw [if_pos rfl, Bool.true_and, Bool.eq_iff_iff, decide_eq_true_iff]
    constructor
    · intro h; exact (inB_iff.1 h).2
    · intro h; exact inB_iff.2 ⟨this.1, h⟩
end Go.Proofs.YticjkfacdmmopaaDoor.Pure
