/- Contracts and plain laws of functions of the given program; no conditions beside those in the theorems. -/
import Derived.Test.YtlepbhlbooajmaaC1GreatestOf
import Derived.Test.YtlepbhlbooajmaaC3GreatestOf
import Derived.Test.YtlepbhlbooajmaaC2GreatestOf
namespace Go.Proofs.Ytlepbhlbooajmaa.Ext
end Go.Proofs.Ytlepbhlbooajmaa.Ext
namespace Go.Proofs.Ytlepbhlbooajmaa.Q
open Go.Proofs.Ytlepbhlbooajmaa.Ext
open Go.RowKit Go.Proofs.YtlepbhlbooajmaaW.PrintWords Go.Proofs.YtlepbhlbooajmaaW.PrintLast Go.Proofs.YtlepbhlbooajmaaW.PrintMore
attribute [local go_sem] max2_int min2_int max_two min_two max_three min_three max_four min_four
set_option linter.unusedVariables false
set_option linter.unusedSimpArgs false
mutual
def impl_builderOf.l0 : Nat → List (S81) → Int → Int → List (S102) → List (S104) → List (S81) → List (List Int) → Option ((List (S81)) × (List (List Int)))
 | 0, _, _, _, _, _, _, _ => none
 | k + 1, x13, x14, x15, x260000, x260001, x265000, x265001 => if x15 < x14 then (if 0 ≤ x15 then (if x15 < (x13.length : Int) then (impl_builderOf.l1 k (([] : List Int)) x13 x14 x15 x265000 (x265000.length : Int) 0 x260000 x260001 x265000 x265001 ((rd_T81 x13 x15).f0) ((rd_T81 x13 x15).f1)) else (none)) else (none)) else (some (x265000, x265001))
def impl_builderOf.l1 : Nat → List Int → List (S81) → Int → Int → List (S81) → Int → Int → List (S102) → List (S104) → List (S81) → List (List Int) → ByteArray → Int → Option ((List (S81)) × (List (List Int)))
 | 0, _, _, _, _, _, _, _, _, _, _, _, _, _ => none
 | k + 1, x6, x13, x14, x15, x21, x22, x23, x260000, x260001, x265000, x265001, x267000, x267001 => if x23 < x22 then (if 0 ≤ x23 then (if x23 < (x21.length : Int) then (if ((rd_T81 x21 x23).f1) ≤ x267001 then (if (x267000.size : Int) = 2 then (if x6.length < 17592186044416 then (impl_builderOf.l1 k (x6 ++ [x23]) x13 x14 x15 x21 x22 (wrap64 (x23 + 1)) x260000 x260001 x265000 x265001 x267000 x267001) else (none)) else (if 0 < (x267000.size : Int) then (if 0 < (((rd_T81 x21 x23).f0).size : Int) then ((impl_System_isMinus.f x260000 x260001 (bt x267000 0) (bt ((rd_T81 x21 x23).f0) 0)).bind fun t275 => (if t275 = true then (impl_builderOf.l1 k x6 x13 x14 x15 x21 x22 (wrap64 (x23 + 1)) x260000 x260001 x265000 x265001 x267000 x267001) else (if x6.length < 17592186044416 then (impl_builderOf.l1 k (x6 ++ [x23]) x13 x14 x15 x21 x22 (wrap64 (x23 + 1)) x260000 x260001 x265000 x265001 x267000 x267001) else (none)))) else (none)) else (none))) else (impl_builderOf.l1 k x6 x13 x14 x15 x21 x22 (wrap64 (x23 + 1)) x260000 x260001 x265000 x265001 x267000 x267001)) else (none)) else (none)) else (if x265001.length < 5864062014805 then (impl_builderOf.l0 k x13 x14 (wrap64 (x15 + 1)) x260000 x260001 x265000 (x265001 ++ [x6])) else (none))
end
def impl_builderOf.f (k : Nat) (l0_0 : List (S102)) (l0_1 : List (S104)) : Option ((List (S81)) × (List (List Int))) := (impl_System_parts.f l0_0 l0_1).bind fun t261 => (impl_builderOf.l0 k t261 (t261.length : Int) 0 l0_0 l0_1 t261 ([] : List (List Int)))
def impl_builderOf.T9 : Bool × List (List Nat × List Nat) := (true, [([], []), ([0], [0]), ([], []), ([2], [2]), ([1, 3], [1, 3]), ([4], [4]), ([5], [5]), ([6, 5], [5, 6]), ([7, 5], [5, 7]), ([8, 5], [5, 8]), ([9, 5, 5], [5, 9]), ([10], [10]), ([10], [10]), ([12, 10], [10, 12]), ([13, 10], [10, 13]), ([10], [10]), ([15, 10], [10, 15]), ([16, 10], [10, 16]), ([11, 14, 17, 10, 10], [10, 11, 14, 17]), ([18, 10], [10, 18]), ([10, 19, 5], [5, 10, 19]), ([5, 20], [5, 20])])
def impl_builderOf.B9 : List Nat := [0, 1, 0, 4, 15, 31, 63, 127, 255, 511, 1023, 2047, 2047, 6143, 14335, 2047, 34815, 100351, 262143, 524287, 1048575, 2097151]
theorem impl_builderOf.tab9 : rtab .any (opsOf Try.f33 9) = impl_builderOf.T9 := by kernel_rfl
theorem impl_builderOf.bits9 : waitsOk impl_builderOf.T9.2 impl_builderOf.B9 = true := by kernel_rfl
set_option maxHeartbeats 8000000 in
set_option maxRecDepth 100000 in
theorem impl_builderOf.calls (k : Nat) (A0_0 : Option Addr) (c0_0 : Nat) (l0_0 : List (S102)) (A0_1 : Option Addr) (c0_1 : Nat) (l0_1 : List (S104)) (r1 : List (S81)) (r2 : List (List Int)) (w : World) (hr0_0 : Kd.C k102 w A0_0 l0_0.length l0_0) (hc0_0 : l0_0.length ≤ c0_0) (hr0_1 : Kd.C k104 w A0_1 l0_1.length l0_1) (hc0_1 : l0_1.length ≤ c0_1) (h : impl_builderOf.f k l0_0 l0_1 = some (r1, r2)) :
  Calls Try.prog 33 #[.agg #[.slice A0_0 l0_0.length c0_0, .slice A0_1 l0_1.length c0_1]] w fun e w' => ∃ v0_ v1_ : Value, e = .returned (.agg #[v0_, v1_]) ∧ Kd.R k81 81 w' w.heap.size (fun _ => True) v0_ r1 ∧ Kd.S (Kd.slice 3 (Kd.int .i64)) 75 w' w.heap.size (fun _ => True) v1_ r2 ∧ Below w.heap.size w w' := by
 have hu31 := Try.underlying31
 have hu72 := Try.underlying72
 have hu81 := Try.underlying81
 have HR0_0 := Aside0.mk hr0_0
 have HC0_0 := Aside0.mk hc0_0
 clear hr0_0 hc0_0
 have HR0_1 := Aside0.mk hr0_1
 have HC0_1 := Aside0.mk hc0_1
 clear hr0_1 hc0_1
 have HB := Aside0.mk (Below.refl w.heap.size w)
 have H : ((impl_System_parts.f l0_0 l0_1).bind fun t261 => (impl_builderOf.l0 k t261 (t261.length : Int) 0 l0_0 l0_1 t261 ([] : List (List Int)))) = some (r1, r2) := h
 clear h
 replace H := Option.bind_eq_some_iff.mp H
 obtain ⟨t261, A20, H⟩ := H
 (try dsimp only at H)
 have A2 := Aside0.mk A20
 clear A20
 have H' := Aside0.mk H
 clear H
 go_enter Try.func33, Try.ntmps33
 go_wp2_with (first | ((with_reducible refine gate_dst (N := 1) rfl ?_); (try (refine gate_guard (by rfl) ?_; dsimp only)); refine box_event ?hg (N := 1) ?hd (cs := #[.slice A0_0 l0_0.length c0_0, .slice A0_1 l0_1.length c0_1]) (t := 31) ?hr ?_; (case hd => rfl); (case hg => rfl); (case hr => first | (go_simp; done) | (go_simp; rfl)); intro gb259 hg w3 hbox hb; have n0_ := Aside0.mk (below_step (by repeat (first | (with_reducible first | exact HB.out | apply bwA | apply pwN | apply bw1) | exact HB.out)) hb); have n1_ := Aside0.mk (hbox); have n2_ := Aside0.mk ((by rw [hg]; exact (below_size (by repeat (first | (with_reducible first | exact HB.out | apply bwA | apply pwN | apply bw1) | exact HB.out))) : w.heap.size ≤ gb259)); have n3_ := Aside0.mk (n2_.out); clear HB; have HB := n0_; have BK259 := n1_; have GW259 := n2_; have GE259 := n3_; clear n0_ n1_ n2_ n3_; clear hb hbox hg) | ((with_reducible refine gate_dst (N := 2) rfl ?_); (try (refine gate_guard (by rfl) ?_; dsimp only)); refine box_event ?hg (N := 2) ?hd (cs := #[.slice none 0 0, .slice none 0 0]) (t := 72) ?hr ?_; (case hd => rfl); (case hg => rfl); (case hr => first | (go_simp; done) | (go_simp; rfl)); intro gb260 hg w4 hbox hb; have n0_ := Aside0.mk (blk_below (g := gb259) (by (with_reducible repeat (first | refine blk_drewN ?_ _ | refine blk_drew ?_ | refine blk_alloc ?_ _)); exact BK259.out) hb); have n1_ := Aside0.mk (below_step (by repeat (first | (with_reducible first | exact HB.out | apply bwA | apply pwN | apply bw1 | refine below_set ?_ GE259.out) | exact HB.out)) hb); have n2_ := Aside0.mk (hbox); have n3_ := Aside0.mk ((by rw [hg]; exact (below_size (by repeat (first | (with_reducible first | exact HB.out | apply bwA | apply pwN | apply bw1 | refine below_set ?_ GE259.out) | exact HB.out))) : w.heap.size ≤ gb260)); have n4_ := Aside0.mk (n3_.out); have n5_ := Aside0.mk ((by rw [hg]; exact Nat.ne_of_lt (blk_lt (g := gb259) (by (with_reducible repeat (first | refine blk_drewN ?_ _ | refine blk_drew ?_ | refine blk_alloc ?_ _)); exact BK259.out)) : gb259 ≠ gb260)); have n6_ := Aside0.mk ((Ne.symm n5_.out)); clear BK259; clear HB; have BK259 := n0_; have HB := n1_; have BK260 := n2_; have GW260 := n3_; have GE260 := n4_; have NB259_260 := n5_; have NB260_259 := n6_; clear n0_ n1_ n2_ n3_ n4_ n5_ n6_; clear hb hbox hg; have hnb5 := NB259_260.out; have hnc5 := NB260_259.out; have hcz6_0 : w4.cell? ⟨gb259, 0, none⟩ = some (.slice A0_0 l0_0.length c0_0) := (blk_cell BK259.out 0).trans rfl; have hcz6_1 : w4.cell? ⟨gb259, 1, none⟩ = some (.slice A0_1 l0_1.length c0_1) := (blk_cell BK259.out 1).trans rfl; have hfz6_0 := blk_frozen BK259.out 0; have hfz6_1 := blk_frozen BK259.out 1) | ((with_reducible refine gate_callee (f := 65) rfl ?_); refine goesL_ (some 10) rfl rfl Try.func65 (by kernel_rfl) rfl #[.agg #[.slice A0_0 l0_0.length c0_0, .slice A0_1 l0_1.length c0_1]] rfl (by (try simp only [List.map_toArray, List.map_cons, List.map_nil]); first | done | rfl | (simp only [List.length_drop, List.length_take]; rfl)) ?_; (with_reducible refine (impl_System_parts.calls _ _ l0_0 _ _ l0_1 t261 _ ?side1 ?side2 ?side3 ?side4 A2.out).mono ?_); (case side1 => repeat (first | exact (Kd.C_below HR0_0.out HB.out) | (with_reducible refine Kd.C_alloc ?_ _) | (with_reducible refine Kd.C_drewN ?_ _) | (with_reducible refine Kd.C_drew ?_))); (case side2 => exact HC0_0.out); (case side3 => repeat (first | exact (Kd.C_below HR0_1.out HB.out) | (with_reducible refine Kd.C_alloc ?_ _) | (with_reducible refine Kd.C_drewN ?_ _) | (with_reducible refine Kd.C_drew ?_))); (case side4 => exact HC0_1.out); rintro e w7 ⟨v262, rfl, ho0, hb⟩; refine ⟨_, rfl, ?_⟩; have n0_ := Aside0.mk (Kd.R_lower ho0 (below_size (by repeat (first | (with_reducible first | exact HB.out | apply bwA | apply pwN | apply bw1 | refine below_set ?_ GE259.out | refine below_set ?_ GE260.out) | exact HB.out)))); have n1_ := Aside0.mk (blk_below (g := gb259) (by (with_reducible repeat (first | refine blk_drewN ?_ _ | refine blk_drew ?_ | refine blk_alloc ?_ _)); exact BK259.out) hb); have n2_ := Aside0.mk (blk_below (g := gb260) (by (with_reducible repeat (first | refine blk_drewN ?_ _ | refine blk_drew ?_ | refine blk_alloc ?_ _)); exact BK260.out) hb); have n3_ := Aside0.mk (below_step (by repeat (first | (with_reducible first | exact HB.out | apply bwA | apply pwN | apply bw1 | refine below_set ?_ GE259.out | refine below_set ?_ GE260.out) | exact HB.out)) hb); clear BK259; clear BK260; clear HB; have HO263 := n0_; have BK259 := n1_; have BK260 := n2_; have HB := n3_; clear n0_ n1_ n2_ n3_; (try clear hb); (try clear hb2); (try clear hk); (try clear hi); (try clear ho0); obtain ⟨Ao8, co8, eo8⟩ := Kd.R_slice HO263.out; subst eo8) | ((with_reducible refine gate_dst (N := 3) rfl ?_); (try (refine gate_guard (by rfl) ?_; dsimp only)); refine box_event ?hg (N := 3) ?hd (cs := #[.slice none 0 0, .slice none 0 0]) (t := 72) ?hr ?_; (case hd => rfl); (case hg => rfl); (case hr => first | (go_simp; done) | (go_simp; rfl)); intro gb264 hg w9 hbox hb; have n0_ := Aside0.mk (Kd.R_below (by (with_reducible repeat (first | apply Kd.R_alloc | apply Kd.R_drewN | apply Kd.R_drew)); exact HO263.out) hb); have n1_ := Aside0.mk (blk_below (g := gb259) (by (with_reducible repeat (first | refine blk_drewN ?_ _ | refine blk_drew ?_ | refine blk_alloc ?_ _)); exact BK259.out) hb); have n2_ := Aside0.mk (blk_below (g := gb260) (by (with_reducible repeat (first | refine blk_drewN ?_ _ | refine blk_drew ?_ | refine blk_alloc ?_ _)); exact BK260.out) hb); have n3_ := Aside0.mk (below_step (by repeat (first | (with_reducible first | exact HB.out | apply bwA | apply pwN | apply bw1 | refine below_set ?_ GE259.out | refine below_set ?_ GE260.out) | exact HB.out)) hb); have n4_ := Aside0.mk (hbox); have n5_ := Aside0.mk ((by rw [hg]; exact (below_size (by repeat (first | (with_reducible first | exact HB.out | apply bwA | apply pwN | apply bw1 | refine below_set ?_ GE259.out | refine below_set ?_ GE260.out) | exact HB.out))) : w.heap.size ≤ gb264)); have n6_ := Aside0.mk (n5_.out); have n7_ := Aside0.mk ((by rw [hg]; exact Nat.ne_of_lt (blk_lt (g := gb259) (by (with_reducible repeat (first | refine blk_drewN ?_ _ | refine blk_drew ?_ | refine blk_alloc ?_ _)); exact BK259.out)) : gb259 ≠ gb264)); have n8_ := Aside0.mk ((Ne.symm n7_.out)); have n9_ := Aside0.mk ((by rw [hg]; exact Nat.ne_of_lt (blk_lt (g := gb260) (by (with_reducible repeat (first | refine blk_drewN ?_ _ | refine blk_drew ?_ | refine blk_alloc ?_ _)); exact BK260.out)) : gb260 ≠ gb264)); have n10_ := Aside0.mk ((Ne.symm n9_.out)); clear HO263; clear BK259; clear BK260; clear HB; have HO263 := n0_; have BK259 := n1_; have BK260 := n2_; have HB := n3_; have BK264 := n4_; have GW264 := n5_; have GE264 := n6_; have NB259_264 := n7_; have NB264_259 := n8_; have NB260_264 := n9_; have NB264_260 := n10_; clear n0_ n1_ n2_ n3_ n4_ n5_ n6_ n7_ n8_ n9_ n10_; clear hb hbox hg; have hnb10 := NB264_259.out; have hnc10 := NB259_264.out; have hnb11 := NB264_260.out; have hnc11 := NB260_264.out; have hcz12_0 : w9.cell? ⟨gb264, 0, none⟩ = some (.slice none 0 0) := (blk_cell BK264.out 0).trans rfl; have hcz12_1 : w9.cell? ⟨gb264, 1, none⟩ = some (.slice none 0 0) := (blk_cell BK264.out 1).trans rfl; have hfz12_0 := blk_frozen BK264.out 0; have hfz12_1 := blk_frozen BK264.out 1))
 go_loopg [15] k (fun kq v15 w' => ∃ (x15_1 : Int) (x265001_1 : List (List Int)) (u265001 : Value), v15 = .int .i64 x15_1 ∧ Aside0 (impl_builderOf.l0 kq t261 (t261.length : Int) x15_1 l0_0 l0_1 t261 x265001_1 = some (r1, r2)) ∧ Aside0 (kq ≤ k) ∧ Aside0 (Kd.R k81 81 w' w.heap.size (fun _ => True) (.slice Ao8 t261.length co8) t261) ∧ Aside0 (Kd.R k81 81 w' w.heap.size (fun _ => True) (.slice Ao8 t261.length co8) t261) ∧ Aside0 (Kd.S (Kd.slice 3 (Kd.int .i64)) 75 w' w.heap.size (fun _ => True) u265001 x265001_1) ∧ Aside0 (w'.heap[gb259]? = some (.cells #[(.slice A0_0 l0_0.length c0_0), (.slice A0_1 l0_1.length c0_1)] 31 (0, 0))) ∧ Aside0 (w'.heap[gb260]? = some (.cells #[(.slice none 0 0), (.slice none 0 0)] 72 (0, 0))) ∧ Aside0 (w'.heap[gb264]? = some (.cells #[(.slice Ao8 t261.length co8), u265001] 72 (0, 0))) ∧ Aside0 (Below w.heap.size w w'))
 case atStart => exact ⟨(0), (([] : List (List Int))), (.slice none 0 0), (by first | rfl | (simp; done) | (simp [*]; done)), H', ⟨Nat.le_refl _⟩, ⟨by (with_reducible repeat (first | apply Kd.R_alloc | apply Kd.R_drewN | apply Kd.R_drew)); exact Kd.R_mono (Kd.R_far (p := ⟨gb264, 1, none⟩) (Kd.R_far (p := ⟨gb264, 0, none⟩) (Kd.R_types HO263.out BK264.out (by decide)) (fun _ hk => hk.2) (.slice Ao8 t261.length co8)) (fun _ hk => hk.2) (.slice none 0 0)) (fun _ hk => trivial)⟩, ⟨by (with_reducible repeat (first | apply Kd.R_alloc | apply Kd.R_drewN | apply Kd.R_drew)); exact Kd.R_mono (Kd.R_far (p := ⟨gb264, 1, none⟩) (Kd.R_far (p := ⟨gb264, 0, none⟩) (Kd.R_types HO263.out BK264.out (by decide)) (fun _ hk => hk.2) (.slice Ao8 t261.length co8)) (fun _ hk => hk.2) (.slice none 0 0)) (fun _ hk => trivial)⟩, ⟨by first | exact Kd.S_nil _ _ _ _ _ | exact Kd.N_nil _ _ _ _ _ | exact Kd.V_nil _ _ _ _ _ | exact Kd.Q_nil _ _ _ _ _ | exact Kd.R_nil _ _ _ _ _⟩, ⟨by (with_reducible repeat (first | refine blk_drewN ?_ _ | refine blk_drew ?_ | refine blk_alloc ?_ _)); refine blk_far ?_ NB259_264.out _; refine blk_far ?_ NB259_264.out _; (with_reducible repeat (first | refine blk_drewN ?_ _ | refine blk_drew ?_ | refine blk_alloc ?_ _)); exact BK259.out⟩, ⟨by (with_reducible repeat (first | refine blk_drewN ?_ _ | refine blk_drew ?_ | refine blk_alloc ?_ _)); refine blk_far ?_ NB260_264.out _; refine blk_far ?_ NB260_264.out _; (with_reducible repeat (first | refine blk_drewN ?_ _ | refine blk_drew ?_ | refine blk_alloc ?_ _)); exact BK260.out⟩, ⟨by (with_reducible repeat (first | refine blk_drewN ?_ _ | refine blk_drew ?_ | refine blk_alloc ?_ _)); refine blk_put (cs := #[.slice Ao8 t261.length co8, .slice none 0 0]) ?_ 1 _ rfl; refine blk_put (cs := #[.slice none 0 0, .slice none 0 0]) ?_ 0 _ rfl; (with_reducible repeat (first | refine blk_drewN ?_ _ | refine blk_drew ?_ | refine blk_alloc ?_ _)); exact BK264.out⟩, ⟨by repeat (first | (with_reducible first | exact HB.out | apply bwA | apply pwN | apply bw1 | refine below_set ?_ GE259.out | refine below_set ?_ GE260.out | refine below_set ?_ GE264.out) | exact HB.out)⟩⟩
 case round =>
  clear H'
  try clear c1
  try clear p2
  try clear c3
  try clear c5
  try clear c6
  try clear c10
  try clear c11
  try clear hcz12_0
  try clear hcz12_1
  try clear hcz6_0
  try clear hcz6_1
  try clear hfz12_0
  try clear hfz12_1
  try clear hfz6_0
  try clear hfz6_1
  obtain ⟨x15_1, x265001_1, u265001, rfl, HA, HK1, HO_13, HO_265000, HO_265001, BK259, BK260, BK264, HB⟩ := hrel
  cases gk with
  | zero => exact absurd HA.out (by simp [impl_builderOf.l0])
  | succ k1 =>
   have H := HA.out
   clear HA
   simp only [impl_builderOf.l0] at H
   by_cases c13 : x15_1 < (t261.length : Int)
   ·rw [if_pos c13] at H
    have c13b0 : decide (x15_1 < (t261.length : Int)) = true := decide_eq_true c13
    clear c13
    by_cases c14 : 0 ≤ x15_1
    ·rw [if_pos c14] at H
     have c14b0 : decide (0 ≤ x15_1) = true := decide_eq_true c14
     clear c14
     by_cases c15 : x15_1 < (t261.length : Int)
     ·rw [if_pos c15] at H
      have c15b0 : decide (x15_1 < (t261.length : Int)) = true := decide_eq_true c15
      clear c15
      obtain ⟨y267, hy267⟩ : ∃ y_ : List Int, y_ = (([] : List Int)) := ⟨_, rfl⟩
      replace H : (impl_builderOf.l1 k1 y267 t261 (t261.length : Int) x15_1 t261 (t261.length : Int) 0 l0_0 l0_1 t261 x265001_1 ((rd_T81 t261 x15_1).f0) ((rd_T81 t261 x15_1).f1)) = some (r1, r2) := by first | (rw [hy267]; with_reducible exact H) | (have H2_ := (Option.bind_some _ _).symm.trans H; rw [hy267]; with_reducible exact H2_) | (have H2_ := (Option.bind_some _ _).symm.trans H; with_reducible exact H2_) | with_reducible exact H | (rw [hy267]; exact H) | exact H
      have Ny267 := Aside0.mk hy267
      clear hy267
      have H' := Aside0.mk H
      clear H
      have p265 : 0 ≤ (x15_1 : Int) := of_decide_eq_true (by first | (with_reducible assumption) | assumption)
      have q265 : x15_1 < (t261.length : Int) := of_decide_eq_true (by first | (with_reducible assumption) | assumption)
      obtain ⟨ad265, e265, hx265_0, hx265_1⟩ := at_T81 (Kd.R_reads' HO_13.out).2.2 x15_1 p265 q265
      cases e265
      replace p265 := eq_true p265
      replace q265 := eq_true q265
      go_wp2_with (first | ((with_reducible refine gate_dst (N := 5) rfl ?_); (try (refine gate_guard (by rfl) ?_; dsimp only)); refine box_event ?hg (N := 5) ?hd (cs := #[.string (⟨#[]⟩ : ByteArray), .int .i64 0]) (t := 81) ?hr ?_; (case hd => rfl); (case hg => rfl); (case hr => first | (go_simp; done) | (go_simp; rfl)); intro gb266 hg w16 hbox hb; have n0_ := Aside0.mk (Kd.R_below (Kd.R_elderB (by (with_reducible repeat (first | apply Kd.R_alloc | apply Kd.R_drewN | apply Kd.R_drew)); exact HO_13.out) gb266 (Nat.le_of_eq hg.symm)) hb); have n1_ := Aside0.mk (Kd.R_below (Kd.R_elderB (by (with_reducible repeat (first | apply Kd.R_alloc | apply Kd.R_drewN | apply Kd.R_drew)); exact HO_265000.out) gb266 (Nat.le_of_eq hg.symm)) hb); have n2_ := Aside0.mk (Kd.S_below (by (with_reducible repeat (first | apply Kd.S_alloc | apply Kd.S_drewN | apply Kd.S_drew)); exact HO_265001.out) hb); have n3_ := Aside0.mk (blk_below (g := gb259) (by (with_reducible repeat (first | refine blk_drewN ?_ _ | refine blk_drew ?_ | refine blk_alloc ?_ _)); exact BK259.out) hb); have n4_ := Aside0.mk (blk_below (g := gb260) (by (with_reducible repeat (first | refine blk_drewN ?_ _ | refine blk_drew ?_ | refine blk_alloc ?_ _)); exact BK260.out) hb); have n5_ := Aside0.mk (blk_below (g := gb264) (by (with_reducible repeat (first | refine blk_drewN ?_ _ | refine blk_drew ?_ | refine blk_alloc ?_ _)); exact BK264.out) hb); have n6_ := Aside0.mk (below_step (by repeat (first | (with_reducible first | exact HB.out | apply bwA | apply pwN | apply bw1 | refine below_set ?_ GE259.out | refine below_set ?_ GE260.out | refine below_set ?_ GE264.out) | exact HB.out)) hb); have n7_ := Aside0.mk (hbox); have n8_ := Aside0.mk ((by rw [hg]; exact (below_size (by repeat (first | (with_reducible first | exact HB.out | apply bwA | apply pwN | apply bw1 | refine below_set ?_ GE259.out | refine below_set ?_ GE260.out | refine below_set ?_ GE264.out) | exact HB.out))) : w.heap.size ≤ gb266)); have n9_ := Aside0.mk (n8_.out); have n10_ := Aside0.mk ((by rw [hg]; exact Nat.ne_of_lt (blk_lt (g := gb259) (by (with_reducible repeat (first | refine blk_drewN ?_ _ | refine blk_drew ?_ | refine blk_alloc ?_ _)); exact BK259.out)) : gb259 ≠ gb266)); have n11_ := Aside0.mk ((Ne.symm n10_.out)); have n12_ := Aside0.mk ((by rw [hg]; exact Nat.ne_of_lt (blk_lt (g := gb260) (by (with_reducible repeat (first | refine blk_drewN ?_ _ | refine blk_drew ?_ | refine blk_alloc ?_ _)); exact BK260.out)) : gb260 ≠ gb266)); have n13_ := Aside0.mk ((Ne.symm n12_.out)); have n14_ := Aside0.mk ((by rw [hg]; exact Nat.ne_of_lt (blk_lt (g := gb264) (by (with_reducible repeat (first | refine blk_drewN ?_ _ | refine blk_drew ?_ | refine blk_alloc ?_ _)); exact BK264.out)) : gb264 ≠ gb266)); have n15_ := Aside0.mk ((Ne.symm n14_.out)); clear HO_13; clear HO_265000; clear HO_265001; clear BK259; clear BK260; clear BK264; clear HB; have HO_13 := n0_; have HO_265000 := n1_; have HO_265001 := n2_; have BK259 := n3_; have BK260 := n4_; have BK264 := n5_; have HB := n6_; have BK266 := n7_; have GW266 := n8_; have GE266 := n9_; have NB259_266 := n10_; have NB266_259 := n11_; have NB260_266 := n12_; have NB266_260 := n13_; have NB264_266 := n14_; have NB266_264 := n15_; clear n0_ n1_ n2_ n3_ n4_ n5_ n6_ n7_ n8_ n9_ n10_ n11_ n12_ n13_ n14_ n15_; clear hb hbox hg; have hnb17 := NB266_259.out; have hnc17 := NB259_266.out; have hnb18 := NB266_260.out; have hnc18 := NB260_266.out; have hnb19 := NB266_264.out; have hnc19 := NB264_266.out; have hcz20_0 : w16.cell? ⟨gb266, 0, none⟩ = some (.string (⟨#[]⟩ : ByteArray)) := (blk_cell BK266.out 0).trans rfl; have hcz20_1 : w16.cell? ⟨gb266, 1, none⟩ = some (.int .i64 0) := (blk_cell BK266.out 1).trans rfl; have hfz20_0 := blk_frozen BK266.out 0; have hfz20_1 := blk_frozen BK266.out 1) | ((with_reducible refine gate_dst (N := 19) rfl ?_); (try (refine gate_guard (by rfl) ?_; dsimp only)); refine Kd.R_lit (Kd.int .i64) _ 3 ?hg (N := 19) ?hd (xs := ([] : List Int)) (inner := []) (ok := fun _ => True) (okp := fun _ => True) ?hr ?hp (fun _ hk => hk) trivial (Below.refl _ _) (Nat.le_refl _) (by simp) ?_; (case hd => rfl); (case hg => rfl); (case hr => first | (go_simp; done) | (go_simp; rfl)); (case hp => exact (Reps.none _ _)); intro v268 w21 ho22 hb hg_ hnew_; clear hg_ hnew_; (first | rw [← Ny267.out] at ho22 | (simp only [Int.reduceToNat] at ho22; rw [← Ny267.out] at ho22)); have n0_ := Aside0.mk (Kd.R_below (by (with_reducible repeat (first | apply Kd.R_alloc | apply Kd.R_drewN | apply Kd.R_drew)); exact (Kd.R_mono (Kd.R_far (p := ⟨gb266, 1, none⟩) (Kd.R_far (p := ⟨gb266, 0, none⟩) (Kd.R_mono HO_13.out (fun k_ hk => (⟨hk, hk.2⟩ : _ ∧ k_ ≠ gb266))) (fun _ hk => hk.2) (.string ((rd_T81 t261 x15_1).f0))) (fun _ hk => hk.2) (.int .i64 ((rd_T81 t261 x15_1).f1))) (fun _ h_ => h_.1))) hb); have n1_ := Aside0.mk (Kd.R_below (by (with_reducible repeat (first | apply Kd.R_alloc | apply Kd.R_drewN | apply Kd.R_drew)); exact (Kd.R_mono (Kd.R_far (p := ⟨gb266, 1, none⟩) (Kd.R_far (p := ⟨gb266, 0, none⟩) (Kd.R_mono HO_265000.out (fun k_ hk => (⟨hk, hk.2⟩ : _ ∧ k_ ≠ gb266))) (fun _ hk => hk.2) (.string ((rd_T81 t261 x15_1).f0))) (fun _ hk => hk.2) (.int .i64 ((rd_T81 t261 x15_1).f1))) (fun _ h_ => h_.1))) hb); have n2_ := Aside0.mk (Kd.S_elder' (by (with_reducible repeat (first | apply Kd.S_alloc | apply Kd.S_drewN | apply Kd.S_drew)); exact (Kd.S_mono (Kd.S_far (p := ⟨gb266, 1, none⟩) (Kd.S_far (p := ⟨gb266, 0, none⟩) (Kd.S_types HO_265001.out BK266.out (by decide)) (fun _ hk => hk.2) (.string ((rd_T81 t261 x15_1).f0))) (fun _ hk => hk.2) (.int .i64 ((rd_T81 t261 x15_1).f1))) (fun _ h_ => h_.1))) (Kd.R_base ho22) hb); have n3_ := Aside0.mk (Kd.R_lower ho22 (below_size (by repeat (first | (with_reducible first | exact HB.out | apply bwA | apply pwN | apply bw1 | refine below_set ?_ GE259.out | refine below_set ?_ GE260.out | refine below_set ?_ GE264.out | refine below_set ?_ GE266.out) | exact HB.out)))); have n4_ := Aside0.mk (blk_below (g := gb259) (blk_far (p := ⟨gb266, _, none⟩) (blk_far (p := ⟨gb266, _, none⟩) BK259.out NB259_266.out _) NB259_266.out _) hb); have n5_ := Aside0.mk (blk_below (g := gb260) (blk_far (p := ⟨gb266, _, none⟩) (blk_far (p := ⟨gb266, _, none⟩) BK260.out NB260_266.out _) NB260_266.out _) hb); have n6_ := Aside0.mk (blk_below (g := gb264) (blk_far (p := ⟨gb266, _, none⟩) (blk_far (p := ⟨gb266, _, none⟩) BK264.out NB264_266.out _) NB264_266.out _) hb); have n7_ := Aside0.mk (blk_below (g := gb266) (blk_put (cs := #[.string ((rd_T81 t261 x15_1).f0), .int .i64 0]) (blk_put (cs := #[.string (⟨#[]⟩ : ByteArray), .int .i64 0]) BK266.out 0 _ rfl) 1 _ rfl) hb); have n8_ := Aside0.mk (below_step (by repeat (first | (with_reducible first | exact HB.out | apply bwA | apply pwN | apply bw1 | refine below_set ?_ GE259.out | refine below_set ?_ GE260.out | refine below_set ?_ GE264.out | refine below_set ?_ GE266.out) | exact HB.out)) hb); clear HO_13; clear HO_265000; clear HO_265001; clear BK259; clear BK260; clear BK264; clear BK266; clear HB; have HO_13 := n0_; have HO_265000 := n1_; have HO_265001 := n2_; have HO269 := n3_; have BK259 := n4_; have BK260 := n5_; have BK264 := n6_; have BK266 := n7_; have HB := n8_; clear n0_ n1_ n2_ n3_ n4_ n5_ n6_ n7_ n8_; clear hb ho22; have hnb23 := NB264_259.out; have hnc23 := NB259_264.out; have hnb24 := NB264_260.out; have hnc24 := NB260_264.out; have hcz25_0 : w21.cell? ⟨gb264, 0, none⟩ = some (.slice (some ad265) t261.length co8) := (blk_cell BK264.out 0).trans rfl; have hcz25_1 : w21.cell? ⟨gb264, 1, none⟩ = some (u265001) := (blk_cell BK264.out 1).trans rfl; have hfz25_0 := blk_frozen BK264.out 0; have hfz25_1 := blk_frozen BK264.out 1))
      go_loopg [6, 23] k1 (fun kq v6 v23 w' => ∃ (x6_2 : List Int) (x23_2 : Int), v23 = .int .i64 x23_2 ∧ Aside0 (impl_builderOf.l1 kq x6_2 t261 (t261.length : Int) x15_1 t261 (t261.length : Int) x23_2 l0_0 l0_1 t261 x265001_1 ((rd_T81 t261 x15_1).f0) ((rd_T81 t261 x15_1).f1) = some (r1, r2)) ∧ Aside0 (kq ≤ k1) ∧ Aside0 (Kd.R (Kd.int .i64) 3 w' w.heap.size (fun _ => True) v6 x6_2) ∧ Aside0 (Kd.R k81 81 w' w.heap.size (fun k_ => k_ ≠ gb266) (.slice (some ad265) t261.length co8) t261) ∧ Aside0 (Kd.R k81 81 w' w.heap.size (fun k_ => k_ ≠ gb266) (.slice (some ad265) t261.length co8) t261) ∧ Aside0 (Kd.R k81 81 w' w.heap.size (fun k_ => k_ ≠ gb266) (.slice (some ad265) t261.length co8) t261) ∧ Aside0 (Kd.S (Kd.slice 3 (Kd.int .i64)) 75 w' w.heap.size (fun k_ => some k_ ≠ (v6 : Value).ownBlock) u265001 x265001_1) ∧ Aside0 (w'.heap[gb259]? = some (.cells #[(.slice A0_0 l0_0.length c0_0), (.slice A0_1 l0_1.length c0_1)] 31 (0, 0))) ∧ Aside0 (w'.heap[gb260]? = some (.cells #[(.slice none 0 0), (.slice none 0 0)] 72 (0, 0))) ∧ Aside0 (w'.heap[gb264]? = some (.cells #[(.slice (some ad265) t261.length co8), u265001] 72 (0, 0))) ∧ Aside0 (w'.heap[gb266]? = some (.cells #[.string ((rd_T81 t261 x15_1).f0), .int .i64 ((rd_T81 t261 x15_1).f1)] 81 (0, 0))) ∧ Aside0 (Below w.heap.size w w'))
      case atStart => exact ⟨(y267), (0), (by first | rfl | (simp; done) | (simp [*]; done)), H', ⟨Nat.le_refl _⟩, ⟨by (with_reducible repeat (first | apply Kd.R_alloc | apply Kd.R_drewN | apply Kd.R_drew)); exact HO269.out⟩, ⟨by (with_reducible repeat (first | apply Kd.R_alloc | apply Kd.R_drewN | apply Kd.R_drew)); exact Kd.R_mono HO_13.out (fun _ hk => hk.2)⟩, ⟨by (with_reducible repeat (first | apply Kd.R_alloc | apply Kd.R_drewN | apply Kd.R_drew)); exact Kd.R_mono HO_265000.out (fun _ hk => hk.2)⟩, ⟨by (with_reducible repeat (first | apply Kd.R_alloc | apply Kd.R_drewN | apply Kd.R_drew)); exact Kd.R_mono HO_265000.out (fun _ hk => hk.2)⟩, ⟨by (with_reducible repeat (first | apply Kd.S_alloc | apply Kd.S_drewN | apply Kd.S_drew)); exact Kd.S_mono HO_265001.out (fun _ hk => hk.2)⟩, ⟨by (with_reducible repeat (first | refine blk_drewN ?_ _ | refine blk_drew ?_ | refine blk_alloc ?_ _)); exact BK259.out⟩, ⟨by (with_reducible repeat (first | refine blk_drewN ?_ _ | refine blk_drew ?_ | refine blk_alloc ?_ _)); exact BK260.out⟩, ⟨by (with_reducible repeat (first | refine blk_drewN ?_ _ | refine blk_drew ?_ | refine blk_alloc ?_ _)); exact BK264.out⟩, ⟨by (with_reducible repeat (first | refine blk_drewN ?_ _ | refine blk_drew ?_ | refine blk_alloc ?_ _)); exact BK266.out⟩, ⟨by repeat (first | (with_reducible first | exact HB.out | apply bwA | apply pwN | apply bw1 | refine below_set ?_ GE259.out | refine below_set ?_ GE260.out | refine below_set ?_ GE264.out | refine below_set ?_ GE266.out) | exact HB.out)⟩⟩
      case round =>
       clear H'
       try clear c1
       try clear c2
       try clear p2
       try clear q2
       try clear hx2
       try clear c3
       try clear c5
       try clear c6
       try clear c10
       try clear c11
       try clear c13
       try clear c13b0
       try clear c14
       try clear c14b0
       try clear c15
       try clear c15b0
       try clear c17
       try clear c18
       try clear c19
       try clear c23
       try clear c24
       try clear hcz12_0
       try clear hcz12_1
       try clear hcz20_0
       try clear hcz20_1
       try clear hcz25_0
       try clear hcz25_1
       try clear hcz6_0
       try clear hcz6_1
       try clear hfz12_0
       try clear hfz12_1
       try clear hfz20_0
       try clear hfz20_1
       try clear hfz25_0
       try clear hfz25_1
       try clear hfz6_0
       try clear hfz6_1
       try clear hx265_0
       try clear hx265_1
       try clear p2
       try clear p265
       try clear q265
       obtain ⟨x6_2, x23_2, rfl, HA, HK2, HO_6, HO_13, HO_21, HO_265000, HO_265001, BK259, BK260, BK264, BK266, HB⟩ := hrel
       cases gk with
       | zero => exact absurd HA.out (by simp [impl_builderOf.l1])
       | succ k2 =>
        have H := HA.out
        clear HA
        simp only [impl_builderOf.l1] at H
        by_cases c26 : x23_2 < (t261.length : Int)
        ·rw [if_pos c26] at H
         have c26b0 : decide (x23_2 < (t261.length : Int)) = true := decide_eq_true c26
         clear c26
         by_cases c27 : 0 ≤ x23_2
         ·rw [if_pos c27] at H
          have c27b0 : decide (0 ≤ x23_2) = true := decide_eq_true c27
          clear c27
          by_cases c28 : x23_2 < (t261.length : Int)
          ·rw [if_pos c28] at H
           have c28b0 : decide (x23_2 < (t261.length : Int)) = true := decide_eq_true c28
           clear c28
           by_cases c29 : ((rd_T81 t261 x23_2).f1) ≤ ((rd_T81 t261 x15_1).f1)
           ·rw [if_pos c29] at H
            have c29b0 : decide (((rd_T81 t261 x23_2).f1) ≤ ((rd_T81 t261 x15_1).f1)) = true := decide_eq_true c29
            clear c29
            by_cases c30 : (((rd_T81 t261 x15_1).f0).size : Int) = 2
            ·rw [if_pos c30] at H
             have c30b0 : ((((rd_T81 t261 x15_1).f0).size : Int) == 2) = true := beq_iff_eq.mpr c30
             have c30b1 : ((((rd_T81 t261 x15_1).f0).size : Int) != 2) = false := bne_eq_false_iff_eq.mpr c30
             clear c30
             by_cases c31 : x6_2.length < 17592186044416
             ·rw [if_pos c31] at H
              have LMc31 := Aside0.mk c31
              clear c31
              obtain ⟨y272, hy272⟩ : ∃ y_ : List Int, y_ = (x6_2 ++ [x23_2]) := ⟨_, rfl⟩
              replace H : (impl_builderOf.l1 k2 y272 t261 (t261.length : Int) x15_1 t261 (t261.length : Int) (wrap64 (x23_2 + 1)) l0_0 l0_1 t261 x265001_1 ((rd_T81 t261 x15_1).f0) ((rd_T81 t261 x15_1).f1)) = some (r1, r2) := by first | (rw [hy272]; with_reducible exact H) | (have H2_ := (Option.bind_some _ _).symm.trans H; rw [hy272]; with_reducible exact H2_) | (have H2_ := (Option.bind_some _ _).symm.trans H; with_reducible exact H2_) | with_reducible exact H | (rw [hy272]; exact H) | exact H
              have Ny272 := Aside0.mk hy272
              clear hy272
              have H' := Aside0.mk H
              clear H
              have p270 : 0 ≤ (x23_2 : Int) := of_decide_eq_true (by first | (with_reducible assumption) | assumption)
              have q270 : x23_2 < (t261.length : Int) := of_decide_eq_true (by first | (with_reducible assumption) | assumption)
              obtain ⟨ad270, e270, hx270_0, hx270_1⟩ := at_T81 (Kd.R_reads' HO_21.out).2.2 x23_2 p270 q270
              obtain rfl : ad265 = ad270 := (by injection e270)
              replace p270 := eq_true p270
              replace q270 := eq_true q270
              try go_wp2_with (first | ((with_reducible refine gate_dst (N := 8) rfl ?_); (try (refine gate_guard (by rfl) ?_; dsimp only)); refine box_event ?hg (N := 8) ?hd (cs := #[.string (⟨#[]⟩ : ByteArray), .int .i64 0]) (t := 81) ?hr ?_; (case hd => rfl); (case hg => rfl); (case hr => first | (go_simp; done) | (go_simp; rfl)); intro gb271 hg w32 hbox hb; have n0_ := Aside0.mk (Kd.R_below (by (with_reducible repeat (first | apply Kd.R_alloc | apply Kd.R_drewN | apply Kd.R_drew)); exact HO_6.out) hb); have n1_ := Aside0.mk (Kd.R_below (Kd.R_elderB (by (with_reducible repeat (first | apply Kd.R_alloc | apply Kd.R_drewN | apply Kd.R_drew)); exact HO_13.out) gb271 (Nat.le_of_eq hg.symm)) hb); have n2_ := Aside0.mk (Kd.R_below (Kd.R_elderB (by (with_reducible repeat (first | apply Kd.R_alloc | apply Kd.R_drewN | apply Kd.R_drew)); exact HO_21.out) gb271 (Nat.le_of_eq hg.symm)) hb); have n3_ := Aside0.mk (Kd.R_below (Kd.R_elderB (by (with_reducible repeat (first | apply Kd.R_alloc | apply Kd.R_drewN | apply Kd.R_drew)); exact HO_265000.out) gb271 (Nat.le_of_eq hg.symm)) hb); have n4_ := Aside0.mk (Kd.S_below (by (with_reducible repeat (first | apply Kd.S_alloc | apply Kd.S_drewN | apply Kd.S_drew)); exact HO_265001.out) hb); have n5_ := Aside0.mk (blk_below (g := gb259) (by (with_reducible repeat (first | refine blk_drewN ?_ _ | refine blk_drew ?_ | refine blk_alloc ?_ _)); exact BK259.out) hb); have n6_ := Aside0.mk (blk_below (g := gb260) (by (with_reducible repeat (first | refine blk_drewN ?_ _ | refine blk_drew ?_ | refine blk_alloc ?_ _)); exact BK260.out) hb); have n7_ := Aside0.mk (blk_below (g := gb264) (by (with_reducible repeat (first | refine blk_drewN ?_ _ | refine blk_drew ?_ | refine blk_alloc ?_ _)); exact BK264.out) hb); have n8_ := Aside0.mk (blk_below (g := gb266) (by (with_reducible repeat (first | refine blk_drewN ?_ _ | refine blk_drew ?_ | refine blk_alloc ?_ _)); exact BK266.out) hb); have n9_ := Aside0.mk (below_step (by repeat (first | (with_reducible first | exact HB.out | apply bwA | apply pwN | apply bw1 | refine below_set ?_ GE259.out | refine below_set ?_ GE260.out | refine below_set ?_ GE264.out | refine below_set ?_ GE266.out) | exact HB.out)) hb); have n10_ := Aside0.mk (hbox); have n11_ := Aside0.mk ((by rw [hg]; exact (below_size (by repeat (first | (with_reducible first | exact HB.out | apply bwA | apply pwN | apply bw1 | refine below_set ?_ GE259.out | refine below_set ?_ GE260.out | refine below_set ?_ GE264.out | refine below_set ?_ GE266.out) | exact HB.out))) : w.heap.size ≤ gb271)); have n12_ := Aside0.mk (n11_.out); have n13_ := Aside0.mk ((by rw [hg]; exact Nat.ne_of_lt (blk_lt (g := gb259) (by (with_reducible repeat (first | refine blk_drewN ?_ _ | refine blk_drew ?_ | refine blk_alloc ?_ _)); exact BK259.out)) : gb259 ≠ gb271)); have n14_ := Aside0.mk ((Ne.symm n13_.out)); have n15_ := Aside0.mk ((by rw [hg]; exact Nat.ne_of_lt (blk_lt (g := gb260) (by (with_reducible repeat (first | refine blk_drewN ?_ _ | refine blk_drew ?_ | refine blk_alloc ?_ _)); exact BK260.out)) : gb260 ≠ gb271)); have n16_ := Aside0.mk ((Ne.symm n15_.out)); have n17_ := Aside0.mk ((by rw [hg]; exact Nat.ne_of_lt (blk_lt (g := gb264) (by (with_reducible repeat (first | refine blk_drewN ?_ _ | refine blk_drew ?_ | refine blk_alloc ?_ _)); exact BK264.out)) : gb264 ≠ gb271)); have n18_ := Aside0.mk ((Ne.symm n17_.out)); have n19_ := Aside0.mk ((by rw [hg]; exact Nat.ne_of_lt (blk_lt (g := gb266) (by (with_reducible repeat (first | refine blk_drewN ?_ _ | refine blk_drew ?_ | refine blk_alloc ?_ _)); exact BK266.out)) : gb266 ≠ gb271)); have n20_ := Aside0.mk ((Ne.symm n19_.out)); clear HO_6; clear HO_13; clear HO_21; clear HO_265000; clear HO_265001; clear BK259; clear BK260; clear BK264; clear BK266; clear HB; have HO_6 := n0_; have HO_13 := n1_; have HO_21 := n2_; have HO_265000 := n3_; have HO_265001 := n4_; have BK259 := n5_; have BK260 := n6_; have BK264 := n7_; have BK266 := n8_; have HB := n9_; have BK271 := n10_; have GW271 := n11_; have GE271 := n12_; have NB259_271 := n13_; have NB271_259 := n14_; have NB260_271 := n15_; have NB271_260 := n16_; have NB264_271 := n17_; have NB271_264 := n18_; have NB266_271 := n19_; have NB271_266 := n20_; clear n0_ n1_ n2_ n3_ n4_ n5_ n6_ n7_ n8_ n9_ n10_ n11_ n12_ n13_ n14_ n15_ n16_ n17_ n18_ n19_ n20_; clear hb hbox hg; have hnb33 := NB271_259.out; have hnc33 := NB259_271.out; have hnb34 := NB271_260.out; have hnc34 := NB260_271.out; have hnb35 := NB271_264.out; have hnc35 := NB264_271.out; have hnb36 := NB271_266.out; have hnc36 := NB266_271.out; have hcz37_0 : w32.cell? ⟨gb271, 0, none⟩ = some (.string (⟨#[]⟩ : ByteArray)) := (blk_cell BK271.out 0).trans rfl; have hcz37_1 : w32.cell? ⟨gb271, 1, none⟩ = some (.int .i64 0) := (blk_cell BK271.out 1).trans rfl; have hfz37_0 := blk_frozen BK271.out 0; have hfz37_1 := blk_frozen BK271.out 1))
              have n0_ : Aside0 (Kd.R (Kd.int .i64) 3 ((w32.setCell ⟨gb271, 0, none⟩ (.string ((rd_T81 t261 x23_2).f0))).setCell ⟨gb271, 1, none⟩ (.int .i64 ((rd_T81 t261 x23_2).f1))) w.heap.size (fun _ => True) u6 x6_2) := ⟨by (with_reducible repeat (first | apply Kd.R_alloc | apply Kd.R_drewN | apply Kd.R_drew)); exact Kd.R_mono (Kd.R_far (p := ⟨gb271, 1, none⟩) (Kd.R_far (p := ⟨gb271, 0, none⟩) (Kd.R_types HO_6.out BK271.out (by decide)) (fun _ hk => hk.2) (.string ((rd_T81 t261 x23_2).f0))) (fun _ hk => hk.2) (.int .i64 ((rd_T81 t261 x23_2).f1))) (fun _ hk => trivial)⟩
              have n1_ : Aside0 (Kd.R k81 81 ((w32.setCell ⟨gb271, 0, none⟩ (.string ((rd_T81 t261 x23_2).f0))).setCell ⟨gb271, 1, none⟩ (.int .i64 ((rd_T81 t261 x23_2).f1))) w.heap.size (fun k_ => k_ ≠ gb266 ∧ k_ ≠ gb271) (.slice (some ad265) t261.length co8) t261) := ⟨by (with_reducible repeat (first | apply Kd.R_alloc | apply Kd.R_drewN | apply Kd.R_drew)); exact Kd.R_mono (Kd.R_far (p := ⟨gb271, 1, none⟩) (Kd.R_far (p := ⟨gb271, 0, none⟩) (Kd.R_mono HO_13.out (fun k_ hk => (⟨hk, hk.2⟩ : _ ∧ k_ ≠ gb271))) (fun _ hk => hk.2) (.string ((rd_T81 t261 x23_2).f0))) (fun _ hk => hk.2) (.int .i64 ((rd_T81 t261 x23_2).f1))) (fun _ hk => ⟨hk.1.1, hk.1.2⟩)⟩
              have n2_ : Aside0 (Kd.R k81 81 ((w32.setCell ⟨gb271, 0, none⟩ (.string ((rd_T81 t261 x23_2).f0))).setCell ⟨gb271, 1, none⟩ (.int .i64 ((rd_T81 t261 x23_2).f1))) w.heap.size (fun k_ => k_ ≠ gb266 ∧ k_ ≠ gb271) (.slice (some ad265) t261.length co8) t261) := ⟨by (with_reducible repeat (first | apply Kd.R_alloc | apply Kd.R_drewN | apply Kd.R_drew)); exact Kd.R_mono (Kd.R_far (p := ⟨gb271, 1, none⟩) (Kd.R_far (p := ⟨gb271, 0, none⟩) (Kd.R_mono HO_21.out (fun k_ hk => (⟨hk, hk.2⟩ : _ ∧ k_ ≠ gb271))) (fun _ hk => hk.2) (.string ((rd_T81 t261 x23_2).f0))) (fun _ hk => hk.2) (.int .i64 ((rd_T81 t261 x23_2).f1))) (fun _ hk => ⟨hk.1.1, hk.1.2⟩)⟩
              have n3_ : Aside0 (Kd.R k81 81 ((w32.setCell ⟨gb271, 0, none⟩ (.string ((rd_T81 t261 x23_2).f0))).setCell ⟨gb271, 1, none⟩ (.int .i64 ((rd_T81 t261 x23_2).f1))) w.heap.size (fun k_ => k_ ≠ gb266 ∧ k_ ≠ gb271) (.slice (some ad265) t261.length co8) t261) := ⟨by (with_reducible repeat (first | apply Kd.R_alloc | apply Kd.R_drewN | apply Kd.R_drew)); exact Kd.R_mono (Kd.R_far (p := ⟨gb271, 1, none⟩) (Kd.R_far (p := ⟨gb271, 0, none⟩) (Kd.R_mono HO_265000.out (fun k_ hk => (⟨hk, hk.2⟩ : _ ∧ k_ ≠ gb271))) (fun _ hk => hk.2) (.string ((rd_T81 t261 x23_2).f0))) (fun _ hk => hk.2) (.int .i64 ((rd_T81 t261 x23_2).f1))) (fun _ hk => ⟨hk.1.1, hk.1.2⟩)⟩
              have n4_ : Aside0 (Kd.S (Kd.slice 3 (Kd.int .i64)) 75 ((w32.setCell ⟨gb271, 0, none⟩ (.string ((rd_T81 t261 x23_2).f0))).setCell ⟨gb271, 1, none⟩ (.int .i64 ((rd_T81 t261 x23_2).f1))) w.heap.size (fun k_ => some k_ ≠ (u6 : Value).ownBlock) u265001 x265001_1) := ⟨by (with_reducible repeat (first | apply Kd.S_alloc | apply Kd.S_drewN | apply Kd.S_drew)); exact Kd.S_mono (Kd.S_far (p := ⟨gb271, 1, none⟩) (Kd.S_far (p := ⟨gb271, 0, none⟩) (Kd.S_types HO_265001.out BK271.out (by decide)) (fun _ hk => hk.2) (.string ((rd_T81 t261 x23_2).f0))) (fun _ hk => hk.2) (.int .i64 ((rd_T81 t261 x23_2).f1))) (fun _ hk => hk.1)⟩
              have n5_ : Aside0 (((w32.setCell ⟨gb271, 0, none⟩ (.string ((rd_T81 t261 x23_2).f0))).setCell ⟨gb271, 1, none⟩ (.int .i64 ((rd_T81 t261 x23_2).f1))).heap[gb259]? = some (.cells #[.slice A0_0 l0_0.length c0_0, .slice A0_1 l0_1.length c0_1] 31 (0, 0))) := ⟨by (with_reducible repeat (first | refine blk_drewN ?_ _ | refine blk_drew ?_ | refine blk_alloc ?_ _)); refine blk_far ?_ NB259_271.out _; refine blk_far ?_ NB259_271.out _; (with_reducible repeat (first | refine blk_drewN ?_ _ | refine blk_drew ?_ | refine blk_alloc ?_ _)); exact BK259.out⟩
              have n6_ : Aside0 (((w32.setCell ⟨gb271, 0, none⟩ (.string ((rd_T81 t261 x23_2).f0))).setCell ⟨gb271, 1, none⟩ (.int .i64 ((rd_T81 t261 x23_2).f1))).heap[gb260]? = some (.cells #[.slice none 0 0, .slice none 0 0] 72 (0, 0))) := ⟨by (with_reducible repeat (first | refine blk_drewN ?_ _ | refine blk_drew ?_ | refine blk_alloc ?_ _)); refine blk_far ?_ NB260_271.out _; refine blk_far ?_ NB260_271.out _; (with_reducible repeat (first | refine blk_drewN ?_ _ | refine blk_drew ?_ | refine blk_alloc ?_ _)); exact BK260.out⟩
              have n7_ : Aside0 (((w32.setCell ⟨gb271, 0, none⟩ (.string ((rd_T81 t261 x23_2).f0))).setCell ⟨gb271, 1, none⟩ (.int .i64 ((rd_T81 t261 x23_2).f1))).heap[gb264]? = some (.cells #[.slice (some ad265) t261.length co8, u265001] 72 (0, 0))) := ⟨by (with_reducible repeat (first | refine blk_drewN ?_ _ | refine blk_drew ?_ | refine blk_alloc ?_ _)); refine blk_far ?_ NB264_271.out _; refine blk_far ?_ NB264_271.out _; (with_reducible repeat (first | refine blk_drewN ?_ _ | refine blk_drew ?_ | refine blk_alloc ?_ _)); exact BK264.out⟩
              have n8_ : Aside0 (((w32.setCell ⟨gb271, 0, none⟩ (.string ((rd_T81 t261 x23_2).f0))).setCell ⟨gb271, 1, none⟩ (.int .i64 ((rd_T81 t261 x23_2).f1))).heap[gb266]? = some (.cells #[.string ((rd_T81 t261 x15_1).f0), .int .i64 ((rd_T81 t261 x15_1).f1)] 81 (0, 0))) := ⟨by (with_reducible repeat (first | refine blk_drewN ?_ _ | refine blk_drew ?_ | refine blk_alloc ?_ _)); refine blk_far ?_ NB266_271.out _; refine blk_far ?_ NB266_271.out _; (with_reducible repeat (first | refine blk_drewN ?_ _ | refine blk_drew ?_ | refine blk_alloc ?_ _)); exact BK266.out⟩
              have n9_ : Aside0 (((w32.setCell ⟨gb271, 0, none⟩ (.string ((rd_T81 t261 x23_2).f0))).setCell ⟨gb271, 1, none⟩ (.int .i64 ((rd_T81 t261 x23_2).f1))).heap[gb271]? = some (.cells #[.string ((rd_T81 t261 x23_2).f0), .int .i64 ((rd_T81 t261 x23_2).f1)] 81 (0, 0))) := ⟨by (with_reducible repeat (first | refine blk_drewN ?_ _ | refine blk_drew ?_ | refine blk_alloc ?_ _)); refine blk_put (cs := #[.string ((rd_T81 t261 x23_2).f0), .int .i64 0]) ?_ 1 _ rfl; refine blk_put (cs := #[.string (⟨#[]⟩ : ByteArray), .int .i64 0]) ?_ 0 _ rfl; (with_reducible repeat (first | refine blk_drewN ?_ _ | refine blk_drew ?_ | refine blk_alloc ?_ _)); exact BK271.out⟩
              have n10_ : Aside0 (Below w.heap.size w ((w32.setCell ⟨gb271, 0, none⟩ (.string ((rd_T81 t261 x23_2).f0))).setCell ⟨gb271, 1, none⟩ (.int .i64 ((rd_T81 t261 x23_2).f1)))) := ⟨by repeat (first | (with_reducible first | exact HB.out | apply bwA | apply pwN | apply bw1 | refine below_set ?_ GE259.out | refine below_set ?_ GE260.out | refine below_set ?_ GE264.out | refine below_set ?_ GE266.out | refine below_set ?_ GE271.out) | exact HB.out)⟩
              (try clear HO_6)
              (try clear HO_13)
              (try clear HO_21)
              (try clear HO_265000)
              (try clear HO_265001)
              (try clear BK259)
              (try clear BK260)
              (try clear BK264)
              (try clear BK266)
              (try clear BK271)
              (try clear HB)
              generalize ((w32.setCell ⟨gb271, 0, none⟩ (.string ((rd_T81 t261 x23_2).f0))).setCell ⟨gb271, 1, none⟩ (.int .i64 ((rd_T81 t261 x23_2).f1))) = w38 at n0_ n1_ n2_ n3_ n4_ n5_ n6_ n7_ n8_ n9_ n10_ ⊢
              have HO_6 := n0_
              have HO_13 := n1_
              have HO_21 := n2_
              have HO_265000 := n3_
              have HO_265001 := n4_
              have BK259 := n5_
              have BK260 := n6_
              have BK264 := n7_
              have BK266 := n8_
              have BK271 := n9_
              have HB := n10_
              clear n0_ n1_ n2_ n3_ n4_ n5_ n6_ n7_ n8_ n9_ n10_
              have n0_ := Aside0.mk (Kd.R_drew HO_6.out)
              have n1_ := Aside0.mk (Kd.R_drew HO_13.out)
              have n2_ := Aside0.mk (Kd.R_drew HO_21.out)
              have n3_ := Aside0.mk (Kd.R_drew HO_265000.out)
              have n4_ := Aside0.mk (Kd.S_drew HO_265001.out)
              have n5_ := Aside0.mk (blk_drew BK259.out)
              have n6_ := Aside0.mk (blk_drew BK260.out)
              have n7_ := Aside0.mk (blk_drew BK264.out)
              have n8_ := Aside0.mk (blk_drew BK266.out)
              have n9_ := Aside0.mk (blk_drew BK271.out)
              have n10_ := Aside0.mk (bw1 HB.out)
              clear HO_6
              clear HO_13
              clear HO_21
              clear HO_265000
              clear HO_265001
              clear BK259
              clear BK260
              clear BK264
              clear BK266
              clear BK271
              clear HB
              have HO_6 := n0_
              have HO_13 := n1_
              have HO_21 := n2_
              have HO_265000 := n3_
              have HO_265001 := n4_
              have BK259 := n5_
              have BK260 := n6_
              have BK264 := n7_
              have BK266 := n8_
              have BK271 := n9_
              have HB := n10_
              clear n0_ n1_ n2_ n3_ n4_ n5_ n6_ n7_ n8_ n9_ n10_
              refine start_ (n := 22) (S := fun w' => w'.cell? ⟨gb271, 0, none⟩ = some (.string ((rd_T81 t261 x23_2).f0)) ∧ w'.cell? ⟨gb271, 1, none⟩ = some (.int .i64 ((rd_T81 t261 x23_2).f1)) ∧ w'.cell? ⟨gb266, 0, none⟩ = some (.string ((rd_T81 t261 x15_1).f0)) ∧ w'.cell? ⟨gb266, 1, none⟩ = some (.int .i64 ((rd_T81 t261 x15_1).f1))) (ds := []) #[false, false, false, false, false, false, false, false, false, false, false, false, false, false, false, false, false, false, false, false, false, false] (by kernel_rfl) rfl rfl ⟨(blk_cell BK271.out 0).trans rfl, (blk_cell BK271.out 1).trans rfl, (blk_cell BK266.out 0).trans rfl, (blk_cell BK266.out 1).trans rfl⟩ (fun hHeld => ?_); refine with_tabW impl_builderOf.tab9 impl_builderOf.bits9 (fun HT_ HW_ => ?_)
              generalize w38.drew = w39 at HO_6 HO_13 HO_21 HO_265000 HO_265001 BK259 BK260 BK264 BK266 BK271 HB hHeld ⊢
              refine pu_ 0 (some 28) HT_ ?_
              refine pu_ 2 (some 30) HT_ ?_
              refine tk_ 1 (some 29) HT_ HW_ hHeld rfl (by rintro w' ⟨s0, s1, s2, s3⟩; go_simp; with_reducible rfl) ?_
              refine tk_ 3 (some 31) HT_ HW_ hHeld rfl (by rintro w' ⟨s0, s1, s2, s3⟩; go_simp; with_reducible rfl) ?_
              refine pu_ 4 (some 32) HT_ ?_
              refine pu_ 5 (some 33) HT_ ?_
              refine pu_ 6 (some 34) HT_ ?_
              refine tk_ 7 (some 35) HT_ HW_ hHeld rfl (by rintro w' ⟨s0, s1, s2, s3⟩; go_simp; with_reducible rfl) ?_
              refine pu_ 8 (some 36) HT_ ?_
              refine pu_ 9 (some 37) HT_ ?_
              refine pu_ 10 (some 38) HT_ ?_
              refine pure_ (i := 11) (N := some 39) (v := undef) (a' := ?_) #[true, true, true, true, true, true, true, true, true, true, true, true, false, false, false, false, false, false, false, false, false, false] rfl rfl (any_of HT_.out (by kernel_rfl)) (fun _ _ _ h => h) (Or.inr ⟨by rfl, rfl⟩) ?_ ?_
              rotate_left
              ·simp only [Act.put, List.setIfInBounds_toArray, List.set_cons_zero, List.set_cons_succ, i64_w, i32_w, u8_w_]
               rfl
              refine pure_ (i := 12) (N := some 40) (v := undef) (a' := ?_) #[true, true, true, true, true, true, true, true, true, true, true, true, true, false, false, false, false, false, false, false, false, false] rfl rfl (any_of HT_.out (by kernel_rfl)) (fun _ _ _ h => h) (Or.inr ⟨by rfl, rfl⟩) ?_ ?_
              rotate_left
              ·simp only [Act.put, List.setIfInBounds_toArray, List.set_cons_zero, List.set_cons_succ, i64_w, i32_w, u8_w_]
               rfl
              refine pure_ (i := 13) (N := some 41) (v := undef) (a' := ?_) #[true, true, true, true, true, true, true, true, true, true, true, true, true, true, false, false, false, false, false, false, false, false] rfl rfl (any_of HT_.out (by kernel_rfl)) (fun _ _ _ h => h) (Or.inr ⟨by rfl, rfl⟩) ?_ ?_
              rotate_left
              ·simp only [Act.put, List.setIfInBounds_toArray, List.set_cons_zero, List.set_cons_succ, i64_w, i32_w, u8_w_]
               rfl
              refine pure_ (i := 14) (N := some 42) (v := undef) (a' := ?_) #[true, true, true, true, true, true, true, true, true, true, true, true, true, true, true, false, false, false, false, false, false, false] rfl rfl (any_of HT_.out (by kernel_rfl)) (fun _ _ _ h => h) (Or.inr ⟨by rfl, rfl⟩) ?_ ?_
              rotate_left
              ·simp only [Act.put, List.setIfInBounds_toArray, List.set_cons_zero, List.set_cons_succ, i64_w, i32_w, u8_w_]
               rfl
              refine pure_ (i := 15) (N := some 43) (v := undef) (a' := ?_) #[true, true, true, true, true, true, true, true, true, true, true, true, true, true, true, true, false, false, false, false, false, false] rfl rfl (any_of HT_.out (by kernel_rfl)) (fun _ _ _ h => h) (Or.inr ⟨by rfl, rfl⟩) ?_ ?_
              rotate_left
              ·simp only [Act.put, List.setIfInBounds_toArray, List.set_cons_zero, List.set_cons_succ, i64_w, i32_w, u8_w_]
               rfl
              refine pure_ (i := 16) (N := some 44) (v := undef) (a' := ?_) #[true, true, true, true, true, true, true, true, true, true, true, true, true, true, true, true, true, false, false, false, false, false] rfl rfl (any_of HT_.out (by kernel_rfl)) (fun _ _ _ h => h) (Or.inr ⟨by rfl, rfl⟩) ?_ ?_
              rotate_left
              ·simp only [Act.put, List.setIfInBounds_toArray, List.set_cons_zero, List.set_cons_succ, i64_w, i32_w, u8_w_]
               rfl
              refine pure_ (i := 17) (N := some 45) (v := undef) (a' := ?_) #[true, true, true, true, true, true, true, true, true, true, true, true, true, true, true, true, true, true, false, false, false, false] rfl rfl (any_of HT_.out (by kernel_rfl)) (fun _ _ _ h => h) (Or.inr ⟨by rfl, rfl⟩) ?_ ?_
              rotate_left
              ·simp only [Act.put, List.setIfInBounds_toArray, List.set_cons_zero, List.set_cons_succ, i64_w, i32_w, u8_w_]
               rfl
              refine pure_ (i := 18) (N := some 46) (v := undef) (a' := ?_) #[true, true, true, true, true, true, true, true, true, true, true, true, true, true, true, true, true, true, true, false, false, false] rfl rfl (any_of HT_.out (by kernel_rfl)) (fun _ _ _ h => h) (Or.inr ⟨by rfl, rfl⟩) ?_ ?_
              rotate_left
              ·simp only [Act.put, List.setIfInBounds_toArray, List.set_cons_zero, List.set_cons_succ, i64_w, i32_w, u8_w_]
               rfl
              refine pure_ (i := 19) (N := some 47) (v := undef) (a' := ?_) #[true, true, true, true, true, true, true, true, true, true, true, true, true, true, true, true, true, true, true, true, false, false] rfl rfl (any_of HT_.out (by kernel_rfl)) (fun _ _ _ h => h) (Or.inr ⟨by rfl, rfl⟩) ?_ ?_
              rotate_left
              ·simp only [Act.put, List.setIfInBounds_toArray, List.set_cons_zero, List.set_cons_succ, i64_w, i32_w, u8_w_]
               rfl
              refine pu_ 20 (some 48) HT_ ?_
              refine pu_ 21 (some 49) HT_ ?_
              refine done_ (done_of HT_.out (by kernel_rfl)) ?_
              try go_wp2_with (first | ((with_reducible refine gate_builtin (b := .append) (xs := #[.tmp 50, .tmp 52]) rfl ?_); (try (refine gate_guard (by rfl) ?_; dsimp only)); at_builtin; refine Kd.R_append (Kd.int .i64) (w0 := w) w.heap.size rfl (.tmp 50) (.tmp 52) 75 3 (.int .i64 0) 8 rfl Try.underlying75 info3 rfl (by decide) (by omega) u6 x6_2 x23_2 [.int .i64 x23_2] (fun _ => True) (fun _ => False) rfl rfl ?aP (fun _ hk => hk.elim) ?aF ?aO ?aB ?aS ?aL ?_; (case aP => exact rfl); (case aB => exact (by repeat (first | (with_reducible first | exact HB.out | apply bwA | apply pwN | apply bw1 | refine below_set ?_ GE259.out | refine below_set ?_ GE260.out | refine below_set ?_ GE264.out | refine below_set ?_ GE266.out | refine below_set ?_ GE271.out) | exact HB.out))); (case aF => exact (fun _ _ => trivial)); (case aO => exact (by (with_reducible repeat (first | apply Kd.R_alloc | apply Kd.R_drewN | apply Kd.R_drew)); exact HO_6.out)); (case aS => exact (below_size (by repeat (first | (with_reducible first | exact HB.out | apply bwA | apply pwN | apply bw1 | refine below_set ?_ GE259.out | refine below_set ?_ GE260.out | refine below_set ?_ GE264.out | refine below_set ?_ GE266.out | refine below_set ?_ GE271.out) | exact HB.out)))); (case aL => have := LMc31.out; omega); intro v273 w40 ho hb hg hat; rw [← Ny272.out] at ho; have n0_ := Aside0.mk (Kd.R_over' (by (with_reducible repeat (first | apply Kd.R_alloc | apply Kd.R_drewN | apply Kd.R_drew)); exact HO_13.out) (Kd.R_typed (by (with_reducible repeat (first | apply Kd.R_alloc | apply Kd.R_drewN | apply Kd.R_drew)); exact HO_6.out)) (by decide) hg); have n1_ := Aside0.mk (Kd.R_over' (by (with_reducible repeat (first | apply Kd.R_alloc | apply Kd.R_drewN | apply Kd.R_drew)); exact HO_21.out) (Kd.R_typed (by (with_reducible repeat (first | apply Kd.R_alloc | apply Kd.R_drewN | apply Kd.R_drew)); exact HO_6.out)) (by decide) hg); have n2_ := Aside0.mk (Kd.R_over' (by (with_reducible repeat (first | apply Kd.R_alloc | apply Kd.R_drewN | apply Kd.R_drew)); exact HO_265000.out) (Kd.R_typed (by (with_reducible repeat (first | apply Kd.R_alloc | apply Kd.R_drewN | apply Kd.R_drew)); exact HO_6.out)) (by decide) hg); have n3_ := Aside0.mk (Kd.S_after (ok := (fun _ => True)) (by (with_reducible repeat (first | apply Kd.S_alloc | apply Kd.S_drewN | apply Kd.S_drew)); exact Kd.S_mono HO_265001.out (fun _ hk => ⟨trivial, hk⟩)) hg hat); have n4_ := Aside0.mk (blk_grown (g := gb259) (by (with_reducible repeat (first | refine blk_drewN ?_ _ | refine blk_drew ?_ | refine blk_alloc ?_ _)); exact BK259.out) hg (Kd.R_ne HO_6.out BK259.out (by decide))); have n5_ := Aside0.mk (blk_grown (g := gb260) (by (with_reducible repeat (first | refine blk_drewN ?_ _ | refine blk_drew ?_ | refine blk_alloc ?_ _)); exact BK260.out) hg (Kd.R_ne HO_6.out BK260.out (by decide))); have n6_ := Aside0.mk (blk_grown (g := gb264) (by (with_reducible repeat (first | refine blk_drewN ?_ _ | refine blk_drew ?_ | refine blk_alloc ?_ _)); exact BK264.out) hg (Kd.R_ne HO_6.out BK264.out (by decide))); have n7_ := Aside0.mk (blk_grown (g := gb266) (by (with_reducible repeat (first | refine blk_drewN ?_ _ | refine blk_drew ?_ | refine blk_alloc ?_ _)); exact BK266.out) hg (Kd.R_ne HO_6.out BK266.out (by decide))); have n8_ := Aside0.mk (blk_grown (g := gb271) (by (with_reducible repeat (first | refine blk_drewN ?_ _ | refine blk_drew ?_ | refine blk_alloc ?_ _)); exact BK271.out) hg (Kd.R_ne HO_6.out BK271.out (by decide))); have n9_ := Aside0.mk (hb); have n10_ := Aside0.mk (ho); clear HO_13; clear HO_21; clear HO_265000; clear HO_265001; clear BK259; clear BK260; clear BK264; clear BK266; clear BK271; clear HB; clear HO_6; have HO_13 := n0_; have HO_21 := n1_; have HO_265000 := n2_; have HO_265001 := n3_; have BK259 := n4_; have BK260 := n5_; have BK264 := n6_; have BK266 := n7_; have BK271 := n8_; have HB := n9_; have HO274 := n10_; clear n0_ n1_ n2_ n3_ n4_ n5_ n6_ n7_ n8_ n9_ n10_; clear ho hb hg hat))
              go_roundg k2
              case measure => have := HK1.out; have := HK2.out; omega
              case rel => exact ⟨(y272), (wrap64 (x23_2 + 1)), (by first | rfl | (simp; done) | (simp [*]; done)), H', ⟨by have := HK1.out; have := HK2.out; omega⟩, ⟨by (with_reducible repeat (first | apply Kd.R_alloc | apply Kd.R_drewN | apply Kd.R_drew)); exact HO274.out⟩, ⟨by (with_reducible repeat (first | apply Kd.R_alloc | apply Kd.R_drewN | apply Kd.R_drew)); exact Kd.R_mono HO_13.out (fun _ hk => hk.1)⟩, ⟨by (with_reducible repeat (first | apply Kd.R_alloc | apply Kd.R_drewN | apply Kd.R_drew)); exact Kd.R_mono HO_21.out (fun _ hk => hk.1)⟩, ⟨by (with_reducible repeat (first | apply Kd.R_alloc | apply Kd.R_drewN | apply Kd.R_drew)); exact Kd.R_mono HO_265000.out (fun _ hk => hk.1)⟩, ⟨by (with_reducible repeat (first | apply Kd.S_alloc | apply Kd.S_drewN | apply Kd.S_drew)); exact Kd.S_mono HO_265001.out (fun _ hk => hk.2)⟩, ⟨by (with_reducible repeat (first | refine blk_drewN ?_ _ | refine blk_drew ?_ | refine blk_alloc ?_ _)); exact BK259.out⟩, ⟨by (with_reducible repeat (first | refine blk_drewN ?_ _ | refine blk_drew ?_ | refine blk_alloc ?_ _)); exact BK260.out⟩, ⟨by (with_reducible repeat (first | refine blk_drewN ?_ _ | refine blk_drew ?_ | refine blk_alloc ?_ _)); exact BK264.out⟩, ⟨by (with_reducible repeat (first | refine blk_drewN ?_ _ | refine blk_drew ?_ | refine blk_alloc ?_ _)); exact BK266.out⟩, ⟨by repeat (first | (with_reducible first | exact HB.out | apply bwA | apply pwN | apply bw1 | refine below_set ?_ GE259.out | refine below_set ?_ GE260.out | refine below_set ?_ GE264.out | refine below_set ?_ GE266.out | refine below_set ?_ GE271.out) | exact HB.out)⟩⟩
             ·rw [if_neg c31] at H
              exact absurd H (by simp)
            ·rw [if_neg c30] at H
             have c30b0 : ((((rd_T81 t261 x15_1).f0).size : Int) == 2) = false := beq_eq_false_iff_ne.mpr c30
             have c30b1 : ((((rd_T81 t261 x15_1).f0).size : Int) != 2) = true := bne_iff_ne.mpr c30
             by_cases c41 : 0 < (((rd_T81 t261 x15_1).f0).size : Int)
             ·rw [if_pos c41] at H
              have c41b0 : decide (0 < (((rd_T81 t261 x15_1).f0).size : Int)) = true := decide_eq_true c41
              have c41b1 : decide (0 < ((rd_T81 t261 x15_1).f0).size) = true := decide_eq_true (by omega)
              clear c41
              by_cases c43 : 0 < (((rd_T81 t261 x23_2).f0).size : Int)
              ·rw [if_pos c43] at H
               have c43b0 : decide (0 < (((rd_T81 t261 x23_2).f0).size : Int)) = true := decide_eq_true c43
               have c43b1 : decide (0 < ((rd_T81 t261 x23_2).f0).size) = true := decide_eq_true (by omega)
               clear c43
               replace H := Option.bind_eq_some_iff.mp H
               obtain ⟨t275, A450, H⟩ := H
               (try dsimp only at H)
               have A45 := Aside0.mk A450
               clear A450
               by_cases c46 : t275 = true
               ·subst c46
                have H1 : (impl_builderOf.l1 k2 x6_2 t261 (t261.length : Int) x15_1 t261 (t261.length : Int) (wrap64 (x23_2 + 1)) l0_0 l0_1 t261 x265001_1 ((rd_T81 t261 x15_1).f0) ((rd_T81 t261 x15_1).f1)) = some (r1, r2) := by rw [if_pos rfl] at H; exact H
                clear H
                have H := H1
                clear H1
                have H' := Aside0.mk H
                clear H
                have p270 : 0 ≤ (x23_2 : Int) := of_decide_eq_true (by first | (with_reducible assumption) | assumption)
                have q270 : x23_2 < (t261.length : Int) := of_decide_eq_true (by first | (with_reducible assumption) | assumption)
                obtain ⟨ad270, e270, hx270_0, hx270_1⟩ := at_T81 (Kd.R_reads' HO_21.out).2.2 x23_2 p270 q270
                obtain rfl : ad265 = ad270 := (by injection e270)
                replace p270 := eq_true p270
                replace q270 := eq_true q270
                try go_wp2_with (first | ((with_reducible refine gate_dst (N := 8) rfl ?_); (try (refine gate_guard (by rfl) ?_; dsimp only)); refine box_event ?hg (N := 8) ?hd (cs := #[.string (⟨#[]⟩ : ByteArray), .int .i64 0]) (t := 81) ?hr ?_; (case hd => rfl); (case hg => rfl); (case hr => first | (go_simp; done) | (go_simp; rfl)); intro gb271 hg w47 hbox hb; have n0_ := Aside0.mk (Kd.R_below (by (with_reducible repeat (first | apply Kd.R_alloc | apply Kd.R_drewN | apply Kd.R_drew)); exact HO_6.out) hb); have n1_ := Aside0.mk (Kd.R_below (Kd.R_elderB (by (with_reducible repeat (first | apply Kd.R_alloc | apply Kd.R_drewN | apply Kd.R_drew)); exact HO_13.out) gb271 (Nat.le_of_eq hg.symm)) hb); have n2_ := Aside0.mk (Kd.R_below (Kd.R_elderB (by (with_reducible repeat (first | apply Kd.R_alloc | apply Kd.R_drewN | apply Kd.R_drew)); exact HO_21.out) gb271 (Nat.le_of_eq hg.symm)) hb); have n3_ := Aside0.mk (Kd.R_below (Kd.R_elderB (by (with_reducible repeat (first | apply Kd.R_alloc | apply Kd.R_drewN | apply Kd.R_drew)); exact HO_265000.out) gb271 (Nat.le_of_eq hg.symm)) hb); have n4_ := Aside0.mk (Kd.S_below (by (with_reducible repeat (first | apply Kd.S_alloc | apply Kd.S_drewN | apply Kd.S_drew)); exact HO_265001.out) hb); have n5_ := Aside0.mk (blk_below (g := gb259) (by (with_reducible repeat (first | refine blk_drewN ?_ _ | refine blk_drew ?_ | refine blk_alloc ?_ _)); exact BK259.out) hb); have n6_ := Aside0.mk (blk_below (g := gb260) (by (with_reducible repeat (first | refine blk_drewN ?_ _ | refine blk_drew ?_ | refine blk_alloc ?_ _)); exact BK260.out) hb); have n7_ := Aside0.mk (blk_below (g := gb264) (by (with_reducible repeat (first | refine blk_drewN ?_ _ | refine blk_drew ?_ | refine blk_alloc ?_ _)); exact BK264.out) hb); have n8_ := Aside0.mk (blk_below (g := gb266) (by (with_reducible repeat (first | refine blk_drewN ?_ _ | refine blk_drew ?_ | refine blk_alloc ?_ _)); exact BK266.out) hb); have n9_ := Aside0.mk (below_step (by repeat (first | (with_reducible first | exact HB.out | apply bwA | apply pwN | apply bw1 | refine below_set ?_ GE259.out | refine below_set ?_ GE260.out | refine below_set ?_ GE264.out | refine below_set ?_ GE266.out) | exact HB.out)) hb); have n10_ := Aside0.mk (hbox); have n11_ := Aside0.mk ((by rw [hg]; exact (below_size (by repeat (first | (with_reducible first | exact HB.out | apply bwA | apply pwN | apply bw1 | refine below_set ?_ GE259.out | refine below_set ?_ GE260.out | refine below_set ?_ GE264.out | refine below_set ?_ GE266.out) | exact HB.out))) : w.heap.size ≤ gb271)); have n12_ := Aside0.mk (n11_.out); have n13_ := Aside0.mk ((by rw [hg]; exact Nat.ne_of_lt (blk_lt (g := gb259) (by (with_reducible repeat (first | refine blk_drewN ?_ _ | refine blk_drew ?_ | refine blk_alloc ?_ _)); exact BK259.out)) : gb259 ≠ gb271)); have n14_ := Aside0.mk ((Ne.symm n13_.out)); have n15_ := Aside0.mk ((by rw [hg]; exact Nat.ne_of_lt (blk_lt (g := gb260) (by (with_reducible repeat (first | refine blk_drewN ?_ _ | refine blk_drew ?_ | refine blk_alloc ?_ _)); exact BK260.out)) : gb260 ≠ gb271)); have n16_ := Aside0.mk ((Ne.symm n15_.out)); have n17_ := Aside0.mk ((by rw [hg]; exact Nat.ne_of_lt (blk_lt (g := gb264) (by (with_reducible repeat (first | refine blk_drewN ?_ _ | refine blk_drew ?_ | refine blk_alloc ?_ _)); exact BK264.out)) : gb264 ≠ gb271)); have n18_ := Aside0.mk ((Ne.symm n17_.out)); have n19_ := Aside0.mk ((by rw [hg]; exact Nat.ne_of_lt (blk_lt (g := gb266) (by (with_reducible repeat (first | refine blk_drewN ?_ _ | refine blk_drew ?_ | refine blk_alloc ?_ _)); exact BK266.out)) : gb266 ≠ gb271)); have n20_ := Aside0.mk ((Ne.symm n19_.out)); clear HO_6; clear HO_13; clear HO_21; clear HO_265000; clear HO_265001; clear BK259; clear BK260; clear BK264; clear BK266; clear HB; have HO_6 := n0_; have HO_13 := n1_; have HO_21 := n2_; have HO_265000 := n3_; have HO_265001 := n4_; have BK259 := n5_; have BK260 := n6_; have BK264 := n7_; have BK266 := n8_; have HB := n9_; have BK271 := n10_; have GW271 := n11_; have GE271 := n12_; have NB259_271 := n13_; have NB271_259 := n14_; have NB260_271 := n15_; have NB271_260 := n16_; have NB264_271 := n17_; have NB271_264 := n18_; have NB266_271 := n19_; have NB271_266 := n20_; clear n0_ n1_ n2_ n3_ n4_ n5_ n6_ n7_ n8_ n9_ n10_ n11_ n12_ n13_ n14_ n15_ n16_ n17_ n18_ n19_ n20_; clear hb hbox hg; have hnb48 := NB271_259.out; have hnc48 := NB259_271.out; have hnb49 := NB271_260.out; have hnc49 := NB260_271.out; have hnb50 := NB271_264.out; have hnc50 := NB264_271.out; have hnb51 := NB271_266.out; have hnc51 := NB266_271.out; have hcz52_0 : w47.cell? ⟨gb271, 0, none⟩ = some (.string (⟨#[]⟩ : ByteArray)) := (blk_cell BK271.out 0).trans rfl; have hcz52_1 : w47.cell? ⟨gb271, 1, none⟩ = some (.int .i64 0) := (blk_cell BK271.out 1).trans rfl; have hfz52_0 := blk_frozen BK271.out 0; have hfz52_1 := blk_frozen BK271.out 1))
                have n0_ : Aside0 (Kd.R (Kd.int .i64) 3 ((w47.setCell ⟨gb271, 0, none⟩ (.string ((rd_T81 t261 x23_2).f0))).setCell ⟨gb271, 1, none⟩ (.int .i64 ((rd_T81 t261 x23_2).f1))) w.heap.size (fun _ => True) u6 x6_2) := ⟨by (with_reducible repeat (first | apply Kd.R_alloc | apply Kd.R_drewN | apply Kd.R_drew)); exact Kd.R_mono (Kd.R_far (p := ⟨gb271, 1, none⟩) (Kd.R_far (p := ⟨gb271, 0, none⟩) (Kd.R_types HO_6.out BK271.out (by decide)) (fun _ hk => hk.2) (.string ((rd_T81 t261 x23_2).f0))) (fun _ hk => hk.2) (.int .i64 ((rd_T81 t261 x23_2).f1))) (fun _ hk => trivial)⟩
                have n1_ : Aside0 (Kd.R k81 81 ((w47.setCell ⟨gb271, 0, none⟩ (.string ((rd_T81 t261 x23_2).f0))).setCell ⟨gb271, 1, none⟩ (.int .i64 ((rd_T81 t261 x23_2).f1))) w.heap.size (fun k_ => k_ ≠ gb266 ∧ k_ ≠ gb271) (.slice (some ad265) t261.length co8) t261) := ⟨by (with_reducible repeat (first | apply Kd.R_alloc | apply Kd.R_drewN | apply Kd.R_drew)); exact Kd.R_mono (Kd.R_far (p := ⟨gb271, 1, none⟩) (Kd.R_far (p := ⟨gb271, 0, none⟩) (Kd.R_mono HO_13.out (fun k_ hk => (⟨hk, hk.2⟩ : _ ∧ k_ ≠ gb271))) (fun _ hk => hk.2) (.string ((rd_T81 t261 x23_2).f0))) (fun _ hk => hk.2) (.int .i64 ((rd_T81 t261 x23_2).f1))) (fun _ hk => ⟨hk.1.1, hk.1.2⟩)⟩
                have n2_ : Aside0 (Kd.R k81 81 ((w47.setCell ⟨gb271, 0, none⟩ (.string ((rd_T81 t261 x23_2).f0))).setCell ⟨gb271, 1, none⟩ (.int .i64 ((rd_T81 t261 x23_2).f1))) w.heap.size (fun k_ => k_ ≠ gb266 ∧ k_ ≠ gb271) (.slice (some ad265) t261.length co8) t261) := ⟨by (with_reducible repeat (first | apply Kd.R_alloc | apply Kd.R_drewN | apply Kd.R_drew)); exact Kd.R_mono (Kd.R_far (p := ⟨gb271, 1, none⟩) (Kd.R_far (p := ⟨gb271, 0, none⟩) (Kd.R_mono HO_21.out (fun k_ hk => (⟨hk, hk.2⟩ : _ ∧ k_ ≠ gb271))) (fun _ hk => hk.2) (.string ((rd_T81 t261 x23_2).f0))) (fun _ hk => hk.2) (.int .i64 ((rd_T81 t261 x23_2).f1))) (fun _ hk => ⟨hk.1.1, hk.1.2⟩)⟩
                have n3_ : Aside0 (Kd.R k81 81 ((w47.setCell ⟨gb271, 0, none⟩ (.string ((rd_T81 t261 x23_2).f0))).setCell ⟨gb271, 1, none⟩ (.int .i64 ((rd_T81 t261 x23_2).f1))) w.heap.size (fun k_ => k_ ≠ gb266 ∧ k_ ≠ gb271) (.slice (some ad265) t261.length co8) t261) := ⟨by (with_reducible repeat (first | apply Kd.R_alloc | apply Kd.R_drewN | apply Kd.R_drew)); exact Kd.R_mono (Kd.R_far (p := ⟨gb271, 1, none⟩) (Kd.R_far (p := ⟨gb271, 0, none⟩) (Kd.R_mono HO_265000.out (fun k_ hk => (⟨hk, hk.2⟩ : _ ∧ k_ ≠ gb271))) (fun _ hk => hk.2) (.string ((rd_T81 t261 x23_2).f0))) (fun _ hk => hk.2) (.int .i64 ((rd_T81 t261 x23_2).f1))) (fun _ hk => ⟨hk.1.1, hk.1.2⟩)⟩
                have n4_ : Aside0 (Kd.S (Kd.slice 3 (Kd.int .i64)) 75 ((w47.setCell ⟨gb271, 0, none⟩ (.string ((rd_T81 t261 x23_2).f0))).setCell ⟨gb271, 1, none⟩ (.int .i64 ((rd_T81 t261 x23_2).f1))) w.heap.size (fun k_ => some k_ ≠ (u6 : Value).ownBlock) u265001 x265001_1) := ⟨by (with_reducible repeat (first | apply Kd.S_alloc | apply Kd.S_drewN | apply Kd.S_drew)); exact Kd.S_mono (Kd.S_far (p := ⟨gb271, 1, none⟩) (Kd.S_far (p := ⟨gb271, 0, none⟩) (Kd.S_types HO_265001.out BK271.out (by decide)) (fun _ hk => hk.2) (.string ((rd_T81 t261 x23_2).f0))) (fun _ hk => hk.2) (.int .i64 ((rd_T81 t261 x23_2).f1))) (fun _ hk => hk.1)⟩
                have n5_ : Aside0 (((w47.setCell ⟨gb271, 0, none⟩ (.string ((rd_T81 t261 x23_2).f0))).setCell ⟨gb271, 1, none⟩ (.int .i64 ((rd_T81 t261 x23_2).f1))).heap[gb259]? = some (.cells #[.slice A0_0 l0_0.length c0_0, .slice A0_1 l0_1.length c0_1] 31 (0, 0))) := ⟨by (with_reducible repeat (first | refine blk_drewN ?_ _ | refine blk_drew ?_ | refine blk_alloc ?_ _)); refine blk_far ?_ NB259_271.out _; refine blk_far ?_ NB259_271.out _; (with_reducible repeat (first | refine blk_drewN ?_ _ | refine blk_drew ?_ | refine blk_alloc ?_ _)); exact BK259.out⟩
                have n6_ : Aside0 (((w47.setCell ⟨gb271, 0, none⟩ (.string ((rd_T81 t261 x23_2).f0))).setCell ⟨gb271, 1, none⟩ (.int .i64 ((rd_T81 t261 x23_2).f1))).heap[gb260]? = some (.cells #[.slice none 0 0, .slice none 0 0] 72 (0, 0))) := ⟨by (with_reducible repeat (first | refine blk_drewN ?_ _ | refine blk_drew ?_ | refine blk_alloc ?_ _)); refine blk_far ?_ NB260_271.out _; refine blk_far ?_ NB260_271.out _; (with_reducible repeat (first | refine blk_drewN ?_ _ | refine blk_drew ?_ | refine blk_alloc ?_ _)); exact BK260.out⟩
                have n7_ : Aside0 (((w47.setCell ⟨gb271, 0, none⟩ (.string ((rd_T81 t261 x23_2).f0))).setCell ⟨gb271, 1, none⟩ (.int .i64 ((rd_T81 t261 x23_2).f1))).heap[gb264]? = some (.cells #[.slice (some ad265) t261.length co8, u265001] 72 (0, 0))) := ⟨by (with_reducible repeat (first | refine blk_drewN ?_ _ | refine blk_drew ?_ | refine blk_alloc ?_ _)); refine blk_far ?_ NB264_271.out _; refine blk_far ?_ NB264_271.out _; (with_reducible repeat (first | refine blk_drewN ?_ _ | refine blk_drew ?_ | refine blk_alloc ?_ _)); exact BK264.out⟩
                have n8_ : Aside0 (((w47.setCell ⟨gb271, 0, none⟩ (.string ((rd_T81 t261 x23_2).f0))).setCell ⟨gb271, 1, none⟩ (.int .i64 ((rd_T81 t261 x23_2).f1))).heap[gb266]? = some (.cells #[.string ((rd_T81 t261 x15_1).f0), .int .i64 ((rd_T81 t261 x15_1).f1)] 81 (0, 0))) := ⟨by (with_reducible repeat (first | refine blk_drewN ?_ _ | refine blk_drew ?_ | refine blk_alloc ?_ _)); refine blk_far ?_ NB266_271.out _; refine blk_far ?_ NB266_271.out _; (with_reducible repeat (first | refine blk_drewN ?_ _ | refine blk_drew ?_ | refine blk_alloc ?_ _)); exact BK266.out⟩
                have n9_ : Aside0 (((w47.setCell ⟨gb271, 0, none⟩ (.string ((rd_T81 t261 x23_2).f0))).setCell ⟨gb271, 1, none⟩ (.int .i64 ((rd_T81 t261 x23_2).f1))).heap[gb271]? = some (.cells #[.string ((rd_T81 t261 x23_2).f0), .int .i64 ((rd_T81 t261 x23_2).f1)] 81 (0, 0))) := ⟨by (with_reducible repeat (first | refine blk_drewN ?_ _ | refine blk_drew ?_ | refine blk_alloc ?_ _)); refine blk_put (cs := #[.string ((rd_T81 t261 x23_2).f0), .int .i64 0]) ?_ 1 _ rfl; refine blk_put (cs := #[.string (⟨#[]⟩ : ByteArray), .int .i64 0]) ?_ 0 _ rfl; (with_reducible repeat (first | refine blk_drewN ?_ _ | refine blk_drew ?_ | refine blk_alloc ?_ _)); exact BK271.out⟩
                have n10_ : Aside0 (Below w.heap.size w ((w47.setCell ⟨gb271, 0, none⟩ (.string ((rd_T81 t261 x23_2).f0))).setCell ⟨gb271, 1, none⟩ (.int .i64 ((rd_T81 t261 x23_2).f1)))) := ⟨by repeat (first | (with_reducible first | exact HB.out | apply bwA | apply pwN | apply bw1 | refine below_set ?_ GE259.out | refine below_set ?_ GE260.out | refine below_set ?_ GE264.out | refine below_set ?_ GE266.out | refine below_set ?_ GE271.out) | exact HB.out)⟩
                (try clear HO_6)
                (try clear HO_13)
                (try clear HO_21)
                (try clear HO_265000)
                (try clear HO_265001)
                (try clear BK259)
                (try clear BK260)
                (try clear BK264)
                (try clear BK266)
                (try clear BK271)
                (try clear HB)
                generalize ((w47.setCell ⟨gb271, 0, none⟩ (.string ((rd_T81 t261 x23_2).f0))).setCell ⟨gb271, 1, none⟩ (.int .i64 ((rd_T81 t261 x23_2).f1))) = w53 at n0_ n1_ n2_ n3_ n4_ n5_ n6_ n7_ n8_ n9_ n10_ ⊢
                have HO_6 := n0_
                have HO_13 := n1_
                have HO_21 := n2_
                have HO_265000 := n3_
                have HO_265001 := n4_
                have BK259 := n5_
                have BK260 := n6_
                have BK264 := n7_
                have BK266 := n8_
                have BK271 := n9_
                have HB := n10_
                clear n0_ n1_ n2_ n3_ n4_ n5_ n6_ n7_ n8_ n9_ n10_
                have n0_ := Aside0.mk (Kd.R_drew HO_6.out)
                have n1_ := Aside0.mk (Kd.R_drew HO_13.out)
                have n2_ := Aside0.mk (Kd.R_drew HO_21.out)
                have n3_ := Aside0.mk (Kd.R_drew HO_265000.out)
                have n4_ := Aside0.mk (Kd.S_drew HO_265001.out)
                have n5_ := Aside0.mk (blk_drew BK259.out)
                have n6_ := Aside0.mk (blk_drew BK260.out)
                have n7_ := Aside0.mk (blk_drew BK264.out)
                have n8_ := Aside0.mk (blk_drew BK266.out)
                have n9_ := Aside0.mk (blk_drew BK271.out)
                have n10_ := Aside0.mk (bw1 HB.out)
                clear HO_6
                clear HO_13
                clear HO_21
                clear HO_265000
                clear HO_265001
                clear BK259
                clear BK260
                clear BK264
                clear BK266
                clear BK271
                clear HB
                have HO_6 := n0_
                have HO_13 := n1_
                have HO_21 := n2_
                have HO_265000 := n3_
                have HO_265001 := n4_
                have BK259 := n5_
                have BK260 := n6_
                have BK264 := n7_
                have BK266 := n8_
                have BK271 := n9_
                have HB := n10_
                clear n0_ n1_ n2_ n3_ n4_ n5_ n6_ n7_ n8_ n9_ n10_
                have p42 : 0 ≤ (0 : Int) := (by omega)
                have q42 : 0 < ((rd_T81 t261 x15_1).f0).size := (by have : (0 : Int) < (((rd_T81 t261 x15_1).f0).size : Int) := of_decide_eq_true (by first | (with_reducible assumption) | assumption); omega)
                have hx42 : ∀ h : 0 < ((rd_T81 t261 x15_1).f0).size, ((((rd_T81 t261 x15_1).f0)[0]'h).toNat : Int) = bt ((rd_T81 t261 x15_1).f0) 0 := bt_at ((rd_T81 t261 x15_1).f0) 0
                clear p42
                have qi42 : (0 < (((rd_T81 t261 x15_1).f0).size : Int)) = True := eq_true (of_decide_eq_true (by first | (with_reducible assumption) | assumption))
                replace q42 := eq_true q42
                have p44 : 0 ≤ (0 : Int) := (by omega)
                have q44 : 0 < ((rd_T81 t261 x23_2).f0).size := (by have : (0 : Int) < (((rd_T81 t261 x23_2).f0).size : Int) := of_decide_eq_true (by first | (with_reducible assumption) | assumption); omega)
                have hx44 : ∀ h : 0 < ((rd_T81 t261 x23_2).f0).size, ((((rd_T81 t261 x23_2).f0)[0]'h).toNat : Int) = bt ((rd_T81 t261 x23_2).f0) 0 := bt_at ((rd_T81 t261 x23_2).f0) 0
                clear p44
                have qi44 : (0 < (((rd_T81 t261 x23_2).f0).size : Int)) = True := eq_true (of_decide_eq_true (by first | (with_reducible assumption) | assumption))
                replace q44 := eq_true q44
                refine start_ (n := 22) (S := fun w' => w'.cell? ⟨gb271, 0, none⟩ = some (.string ((rd_T81 t261 x23_2).f0)) ∧ w'.cell? ⟨gb271, 1, none⟩ = some (.int .i64 ((rd_T81 t261 x23_2).f1)) ∧ w'.cell? ⟨gb266, 0, none⟩ = some (.string ((rd_T81 t261 x15_1).f0)) ∧ w'.cell? ⟨gb266, 1, none⟩ = some (.int .i64 ((rd_T81 t261 x15_1).f1)) ∧ w'.cell? ⟨gb259, 0, none⟩ = some (.slice A0_0 l0_0.length c0_0) ∧ w'.cell? ⟨gb259, 1, none⟩ = some (.slice A0_1 l0_1.length c0_1)) (ds := []) #[false, false, false, false, false, false, false, false, false, false, false, false, false, false, false, false, false, false, false, false, false, false] (by kernel_rfl) rfl rfl ⟨(blk_cell BK271.out 0).trans rfl, (blk_cell BK271.out 1).trans rfl, (blk_cell BK266.out 0).trans rfl, (blk_cell BK266.out 1).trans rfl, (blk_cell BK259.out 0).trans rfl, (blk_cell BK259.out 1).trans rfl⟩ (fun hHeld => ?_); refine with_tabW impl_builderOf.tab9 impl_builderOf.bits9 (fun HT_ HW_ => ?_)
                generalize w53.drew = w54 at HO_6 HO_13 HO_21 HO_265000 HO_265001 BK259 BK260 BK264 BK266 BK271 HB hHeld ⊢
                refine pu_ 0 (some 28) HT_ ?_
                refine pu_ 2 (some 30) HT_ ?_
                refine tk_ 1 (some 29) HT_ HW_ hHeld rfl (by rintro w' ⟨s0, s1, s2, s3, s4, s5⟩; go_simp; with_reducible rfl) ?_
                refine tk_ 3 (some 31) HT_ HW_ hHeld rfl (by rintro w' ⟨s0, s1, s2, s3, s4, s5⟩; go_simp; with_reducible rfl) ?_
                refine pu_ 4 (some 32) HT_ ?_
                refine pu_ 5 (some 33) HT_ ?_
                refine pu_ 6 (some 34) HT_ ?_
                refine tk_ 7 (some 35) HT_ HW_ hHeld rfl (by rintro w' ⟨s0, s1, s2, s3, s4, s5⟩; go_simp; with_reducible rfl) ?_
                refine pu_ 8 (some 36) HT_ ?_
                refine pu_ 9 (some 37) HT_ ?_
                refine pu_ 10 (some 38) HT_ ?_
                refine pu_ 12 (some 40) HT_ ?_
                refine pu_ 15 (some 43) HT_ ?_
                refine tk_ 11 (some 39) HT_ HW_ hHeld rfl (by rintro w' ⟨s0, s1, s2, s3, s4, s5⟩; go_simp; with_reducible rfl) ?_
                refine tk_ 13 (some 41) HT_ HW_ hHeld rfl (by rintro w' ⟨s0, s1, s2, s3, s4, s5⟩; go_simp; with_reducible rfl) ?_
                refine tk_ 14 (some 42) HT_ HW_ hHeld rfl (by rintro w' ⟨s0, s1, s2, s3, s4, s5⟩; go_simp; with_reducible rfl) ?_
                refine tk_ 16 (some 44) HT_ HW_ hHeld rfl (by rintro w' ⟨s0, s1, s2, s3, s4, s5⟩; go_simp; with_reducible rfl) ?_
                refine tk_ 17 (some 45) HT_ HW_ hHeld rfl (by rintro w' ⟨s0, s1, s2, s3, s4, s5⟩; go_simp; with_reducible rfl) ?_
                refine on_ 18 (some 46) HT_ fun K hK => ?_
                refine goes_ Try.func66 (by kernel_rfl) rfl #[.agg #[.slice A0_0 l0_0.length c0_0, .slice A0_1 l0_1.length c0_1], .int .u8 (bt ((rd_T81 t261 x15_1).f0) 0), .int .u8 (bt ((rd_T81 t261 x23_2).f0) 0)] (by rfl) rfl rfl (by (try simp only [List.map_toArray, List.map_cons, List.map_nil]); first | done | rfl | (simp only [List.length_drop, List.length_take]; rfl)) ?_
                with_reducible refine (impl_System_isMinus.calls _ _ l0_0 _ _ l0_1 (bt ((rd_T81 t261 x15_1).f0) 0) (bt ((rd_T81 t261 x23_2).f0) 0) true _ ?side1 ?side2 ?side3 ?side4 A45.out).mono ?_
                (case side1 => repeat (first | exact (Kd.C_below HR0_0.out HB.out) | (with_reducible refine Kd.C_alloc ?_ _) | (with_reducible refine Kd.C_drewN ?_ _) | (with_reducible refine Kd.C_drew ?_)))
                (case side2 => exact HC0_0.out)
                (case side3 => repeat (first | exact (Kd.C_below HR0_1.out HB.out) | (with_reducible refine Kd.C_alloc ?_ _) | (with_reducible refine Kd.C_drewN ?_ _) | (with_reducible refine Kd.C_drew ?_)))
                (case side4 => exact HC0_1.out)
                rintro e w55 ⟨rfl, hb⟩
                refine ⟨_, rfl, ?_⟩
                have n0_ := Aside0.mk (Kd.R_below (by (with_reducible repeat (first | apply Kd.R_alloc | apply Kd.R_drewN | apply Kd.R_drew)); exact HO_6.out) hb)
                have n1_ := Aside0.mk (Kd.R_below (by (with_reducible repeat (first | apply Kd.R_alloc | apply Kd.R_drewN | apply Kd.R_drew)); exact HO_13.out) hb)
                have n2_ := Aside0.mk (Kd.R_below (by (with_reducible repeat (first | apply Kd.R_alloc | apply Kd.R_drewN | apply Kd.R_drew)); exact HO_21.out) hb)
                have n3_ := Aside0.mk (Kd.R_below (by (with_reducible repeat (first | apply Kd.R_alloc | apply Kd.R_drewN | apply Kd.R_drew)); exact HO_265000.out) hb)
                have n4_ := Aside0.mk (Kd.S_below (by (with_reducible repeat (first | apply Kd.S_alloc | apply Kd.S_drewN | apply Kd.S_drew)); exact HO_265001.out) hb)
                have n5_ := Aside0.mk (blk_below (g := gb259) (by (with_reducible repeat (first | refine blk_drewN ?_ _ | refine blk_drew ?_ | refine blk_alloc ?_ _)); exact BK259.out) hb)
                have n6_ := Aside0.mk (blk_below (g := gb260) (by (with_reducible repeat (first | refine blk_drewN ?_ _ | refine blk_drew ?_ | refine blk_alloc ?_ _)); exact BK260.out) hb)
                have n7_ := Aside0.mk (blk_below (g := gb264) (by (with_reducible repeat (first | refine blk_drewN ?_ _ | refine blk_drew ?_ | refine blk_alloc ?_ _)); exact BK264.out) hb)
                have n8_ := Aside0.mk (blk_below (g := gb266) (by (with_reducible repeat (first | refine blk_drewN ?_ _ | refine blk_drew ?_ | refine blk_alloc ?_ _)); exact BK266.out) hb)
                have n9_ := Aside0.mk (blk_below (g := gb271) (by (with_reducible repeat (first | refine blk_drewN ?_ _ | refine blk_drew ?_ | refine blk_alloc ?_ _)); exact BK271.out) hb)
                have n10_ := Aside0.mk (below_step (by repeat (first | (with_reducible first | exact HB.out | apply bwA | apply pwN | apply bw1 | refine below_set ?_ GE259.out | refine below_set ?_ GE260.out | refine below_set ?_ GE264.out | refine below_set ?_ GE266.out | refine below_set ?_ GE271.out) | exact HB.out)) hb)
                clear HO_6
                clear HO_13
                clear HO_21
                clear HO_265000
                clear HO_265001
                clear BK259
                clear BK260
                clear BK264
                clear BK266
                clear BK271
                clear HB
                have HO_6 := n0_
                have HO_13 := n1_
                have HO_21 := n2_
                have HO_265000 := n3_
                have HO_265001 := n4_
                have BK259 := n5_
                have BK260 := n6_
                have BK264 := n7_
                have BK266 := n8_
                have BK271 := n9_
                have HB := n10_
                clear n0_ n1_ n2_ n3_ n4_ n5_ n6_ n7_ n8_ n9_ n10_
                (try clear hb)
                (try clear hb2)
                (try clear hk)
                (try clear hi)
                refine hK.out _ _ ⟨(blk_cell BK271.out 0).trans rfl, (blk_cell BK271.out 1).trans rfl, (blk_cell BK266.out 0).trans rfl, (blk_cell BK266.out 1).trans rfl, (blk_cell BK259.out 0).trans rfl, (blk_cell BK259.out 1).trans rfl⟩ (fun hHeld => ?_)
                clear hK K
                refine nm_ (some 46) ?_
                refine pu_ 19 (some 47) HT_ ?_
                refine pu_ 20 (some 48) HT_ ?_
                refine pu_ 21 (some 49) HT_ ?_
                refine done_ (done_of HT_.out (by kernel_rfl)) ?_
                try go_wp2
                go_roundg k2
                case measure => have := HK1.out; have := HK2.out; omega
                case rel => exact ⟨(x6_2), (wrap64 (x23_2 + 1)), (by first | rfl | (simp; done) | (simp [*]; done)), H', ⟨by have := HK1.out; have := HK2.out; omega⟩, ⟨by (with_reducible repeat (first | apply Kd.R_alloc | apply Kd.R_drewN | apply Kd.R_drew)); exact HO_6.out⟩, ⟨by (with_reducible repeat (first | apply Kd.R_alloc | apply Kd.R_drewN | apply Kd.R_drew)); exact Kd.R_mono HO_13.out (fun _ hk => hk.1)⟩, ⟨by (with_reducible repeat (first | apply Kd.R_alloc | apply Kd.R_drewN | apply Kd.R_drew)); exact Kd.R_mono HO_21.out (fun _ hk => hk.1)⟩, ⟨by (with_reducible repeat (first | apply Kd.R_alloc | apply Kd.R_drewN | apply Kd.R_drew)); exact Kd.R_mono HO_265000.out (fun _ hk => hk.1)⟩, ⟨by (with_reducible repeat (first | apply Kd.S_alloc | apply Kd.S_drewN | apply Kd.S_drew)); exact HO_265001.out⟩, ⟨by (with_reducible repeat (first | refine blk_drewN ?_ _ | refine blk_drew ?_ | refine blk_alloc ?_ _)); exact BK259.out⟩, ⟨by (with_reducible repeat (first | refine blk_drewN ?_ _ | refine blk_drew ?_ | refine blk_alloc ?_ _)); exact BK260.out⟩, ⟨by (with_reducible repeat (first | refine blk_drewN ?_ _ | refine blk_drew ?_ | refine blk_alloc ?_ _)); exact BK264.out⟩, ⟨by (with_reducible repeat (first | refine blk_drewN ?_ _ | refine blk_drew ?_ | refine blk_alloc ?_ _)); exact BK266.out⟩, ⟨by repeat (first | (with_reducible first | exact HB.out | apply bwA | apply pwN | apply bw1 | refine below_set ?_ GE259.out | refine below_set ?_ GE260.out | refine below_set ?_ GE264.out | refine below_set ?_ GE266.out | refine below_set ?_ GE271.out) | exact HB.out)⟩⟩
               ·replace c46 := Bool.eq_false_iff.mpr c46
                subst c46
                have H1 : (if x6_2.length < 17592186044416 then (impl_builderOf.l1 k2 (x6_2 ++ [x23_2]) t261 (t261.length : Int) x15_1 t261 (t261.length : Int) (wrap64 (x23_2 + 1)) l0_0 l0_1 t261 x265001_1 ((rd_T81 t261 x15_1).f0) ((rd_T81 t261 x15_1).f1)) else (none)) = some (r1, r2) := by rw [if_neg (show ¬ (false = true) by decide)] at H; exact H
                clear H
                have H := H1
                clear H1
                by_cases c56 : x6_2.length < 17592186044416
                ·rw [if_pos c56] at H
                 have LMc56 := Aside0.mk c56
                 clear c56
                 obtain ⟨y276, hy276⟩ : ∃ y_ : List Int, y_ = (x6_2 ++ [x23_2]) := ⟨_, rfl⟩
                 replace H : (impl_builderOf.l1 k2 y276 t261 (t261.length : Int) x15_1 t261 (t261.length : Int) (wrap64 (x23_2 + 1)) l0_0 l0_1 t261 x265001_1 ((rd_T81 t261 x15_1).f0) ((rd_T81 t261 x15_1).f1)) = some (r1, r2) := by first | (rw [hy276]; with_reducible exact H) | (have H2_ := (Option.bind_some _ _).symm.trans H; rw [hy276]; with_reducible exact H2_) | (have H2_ := (Option.bind_some _ _).symm.trans H; with_reducible exact H2_) | with_reducible exact H | (rw [hy276]; exact H) | exact H
                 have Ny276 := Aside0.mk hy276
                 clear hy276
                 have H' := Aside0.mk H
                 clear H
                 have p270 : 0 ≤ (x23_2 : Int) := of_decide_eq_true (by first | (with_reducible assumption) | assumption)
                 have q270 : x23_2 < (t261.length : Int) := of_decide_eq_true (by first | (with_reducible assumption) | assumption)
                 obtain ⟨ad270, e270, hx270_0, hx270_1⟩ := at_T81 (Kd.R_reads' HO_21.out).2.2 x23_2 p270 q270
                 obtain rfl : ad265 = ad270 := (by injection e270)
                 replace p270 := eq_true p270
                 replace q270 := eq_true q270
                 try go_wp2_with (first | ((with_reducible refine gate_dst (N := 8) rfl ?_); (try (refine gate_guard (by rfl) ?_; dsimp only)); refine box_event ?hg (N := 8) ?hd (cs := #[.string (⟨#[]⟩ : ByteArray), .int .i64 0]) (t := 81) ?hr ?_; (case hd => rfl); (case hg => rfl); (case hr => first | (go_simp; done) | (go_simp; rfl)); intro gb271 hg w57 hbox hb; have n0_ := Aside0.mk (Kd.R_below (by (with_reducible repeat (first | apply Kd.R_alloc | apply Kd.R_drewN | apply Kd.R_drew)); exact HO_6.out) hb); have n1_ := Aside0.mk (Kd.R_below (Kd.R_elderB (by (with_reducible repeat (first | apply Kd.R_alloc | apply Kd.R_drewN | apply Kd.R_drew)); exact HO_13.out) gb271 (Nat.le_of_eq hg.symm)) hb); have n2_ := Aside0.mk (Kd.R_below (Kd.R_elderB (by (with_reducible repeat (first | apply Kd.R_alloc | apply Kd.R_drewN | apply Kd.R_drew)); exact HO_21.out) gb271 (Nat.le_of_eq hg.symm)) hb); have n3_ := Aside0.mk (Kd.R_below (Kd.R_elderB (by (with_reducible repeat (first | apply Kd.R_alloc | apply Kd.R_drewN | apply Kd.R_drew)); exact HO_265000.out) gb271 (Nat.le_of_eq hg.symm)) hb); have n4_ := Aside0.mk (Kd.S_below (by (with_reducible repeat (first | apply Kd.S_alloc | apply Kd.S_drewN | apply Kd.S_drew)); exact HO_265001.out) hb); have n5_ := Aside0.mk (blk_below (g := gb259) (by (with_reducible repeat (first | refine blk_drewN ?_ _ | refine blk_drew ?_ | refine blk_alloc ?_ _)); exact BK259.out) hb); have n6_ := Aside0.mk (blk_below (g := gb260) (by (with_reducible repeat (first | refine blk_drewN ?_ _ | refine blk_drew ?_ | refine blk_alloc ?_ _)); exact BK260.out) hb); have n7_ := Aside0.mk (blk_below (g := gb264) (by (with_reducible repeat (first | refine blk_drewN ?_ _ | refine blk_drew ?_ | refine blk_alloc ?_ _)); exact BK264.out) hb); have n8_ := Aside0.mk (blk_below (g := gb266) (by (with_reducible repeat (first | refine blk_drewN ?_ _ | refine blk_drew ?_ | refine blk_alloc ?_ _)); exact BK266.out) hb); have n9_ := Aside0.mk (below_step (by repeat (first | (with_reducible first | exact HB.out | apply bwA | apply pwN | apply bw1 | refine below_set ?_ GE259.out | refine below_set ?_ GE260.out | refine below_set ?_ GE264.out | refine below_set ?_ GE266.out) | exact HB.out)) hb); have n10_ := Aside0.mk (hbox); have n11_ := Aside0.mk ((by rw [hg]; exact (below_size (by repeat (first | (with_reducible first | exact HB.out | apply bwA | apply pwN | apply bw1 | refine below_set ?_ GE259.out | refine below_set ?_ GE260.out | refine below_set ?_ GE264.out | refine below_set ?_ GE266.out) | exact HB.out))) : w.heap.size ≤ gb271)); have n12_ := Aside0.mk (n11_.out); have n13_ := Aside0.mk ((by rw [hg]; exact Nat.ne_of_lt (blk_lt (g := gb259) (by (with_reducible repeat (first | refine blk_drewN ?_ _ | refine blk_drew ?_ | refine blk_alloc ?_ _)); exact BK259.out)) : gb259 ≠ gb271)); have n14_ := Aside0.mk ((Ne.symm n13_.out)); have n15_ := Aside0.mk ((by rw [hg]; exact Nat.ne_of_lt (blk_lt (g := gb260) (by (with_reducible repeat (first | refine blk_drewN ?_ _ | refine blk_drew ?_ | refine blk_alloc ?_ _)); exact BK260.out)) : gb260 ≠ gb271)); have n16_ := Aside0.mk ((Ne.symm n15_.out)); have n17_ := Aside0.mk ((by rw [hg]; exact Nat.ne_of_lt (blk_lt (g := gb264) (by (with_reducible repeat (first | refine blk_drewN ?_ _ | refine blk_drew ?_ | refine blk_alloc ?_ _)); exact BK264.out)) : gb264 ≠ gb271)); have n18_ := Aside0.mk ((Ne.symm n17_.out)); have n19_ := Aside0.mk ((by rw [hg]; exact Nat.ne_of_lt (blk_lt (g := gb266) (by (with_reducible repeat (first | refine blk_drewN ?_ _ | refine blk_drew ?_ | refine blk_alloc ?_ _)); exact BK266.out)) : gb266 ≠ gb271)); have n20_ := Aside0.mk ((Ne.symm n19_.out)); clear HO_6; clear HO_13; clear HO_21; clear HO_265000; clear HO_265001; clear BK259; clear BK260; clear BK264; clear BK266; clear HB; have HO_6 := n0_; have HO_13 := n1_; have HO_21 := n2_; have HO_265000 := n3_; have HO_265001 := n4_; have BK259 := n5_; have BK260 := n6_; have BK264 := n7_; have BK266 := n8_; have HB := n9_; have BK271 := n10_; have GW271 := n11_; have GE271 := n12_; have NB259_271 := n13_; have NB271_259 := n14_; have NB260_271 := n15_; have NB271_260 := n16_; have NB264_271 := n17_; have NB271_264 := n18_; have NB266_271 := n19_; have NB271_266 := n20_; clear n0_ n1_ n2_ n3_ n4_ n5_ n6_ n7_ n8_ n9_ n10_ n11_ n12_ n13_ n14_ n15_ n16_ n17_ n18_ n19_ n20_; clear hb hbox hg; have hnb58 := NB271_259.out; have hnc58 := NB259_271.out; have hnb59 := NB271_260.out; have hnc59 := NB260_271.out; have hnb60 := NB271_264.out; have hnc60 := NB264_271.out; have hnb61 := NB271_266.out; have hnc61 := NB266_271.out; have hcz62_0 : w57.cell? ⟨gb271, 0, none⟩ = some (.string (⟨#[]⟩ : ByteArray)) := (blk_cell BK271.out 0).trans rfl; have hcz62_1 : w57.cell? ⟨gb271, 1, none⟩ = some (.int .i64 0) := (blk_cell BK271.out 1).trans rfl; have hfz62_0 := blk_frozen BK271.out 0; have hfz62_1 := blk_frozen BK271.out 1))
                 have n0_ : Aside0 (Kd.R (Kd.int .i64) 3 ((w57.setCell ⟨gb271, 0, none⟩ (.string ((rd_T81 t261 x23_2).f0))).setCell ⟨gb271, 1, none⟩ (.int .i64 ((rd_T81 t261 x23_2).f1))) w.heap.size (fun _ => True) u6 x6_2) := ⟨by (with_reducible repeat (first | apply Kd.R_alloc | apply Kd.R_drewN | apply Kd.R_drew)); exact Kd.R_mono (Kd.R_far (p := ⟨gb271, 1, none⟩) (Kd.R_far (p := ⟨gb271, 0, none⟩) (Kd.R_types HO_6.out BK271.out (by decide)) (fun _ hk => hk.2) (.string ((rd_T81 t261 x23_2).f0))) (fun _ hk => hk.2) (.int .i64 ((rd_T81 t261 x23_2).f1))) (fun _ hk => trivial)⟩
                 have n1_ : Aside0 (Kd.R k81 81 ((w57.setCell ⟨gb271, 0, none⟩ (.string ((rd_T81 t261 x23_2).f0))).setCell ⟨gb271, 1, none⟩ (.int .i64 ((rd_T81 t261 x23_2).f1))) w.heap.size (fun k_ => k_ ≠ gb266 ∧ k_ ≠ gb271) (.slice (some ad265) t261.length co8) t261) := ⟨by (with_reducible repeat (first | apply Kd.R_alloc | apply Kd.R_drewN | apply Kd.R_drew)); exact Kd.R_mono (Kd.R_far (p := ⟨gb271, 1, none⟩) (Kd.R_far (p := ⟨gb271, 0, none⟩) (Kd.R_mono HO_13.out (fun k_ hk => (⟨hk, hk.2⟩ : _ ∧ k_ ≠ gb271))) (fun _ hk => hk.2) (.string ((rd_T81 t261 x23_2).f0))) (fun _ hk => hk.2) (.int .i64 ((rd_T81 t261 x23_2).f1))) (fun _ hk => ⟨hk.1.1, hk.1.2⟩)⟩
                 have n2_ : Aside0 (Kd.R k81 81 ((w57.setCell ⟨gb271, 0, none⟩ (.string ((rd_T81 t261 x23_2).f0))).setCell ⟨gb271, 1, none⟩ (.int .i64 ((rd_T81 t261 x23_2).f1))) w.heap.size (fun k_ => k_ ≠ gb266 ∧ k_ ≠ gb271) (.slice (some ad265) t261.length co8) t261) := ⟨by (with_reducible repeat (first | apply Kd.R_alloc | apply Kd.R_drewN | apply Kd.R_drew)); exact Kd.R_mono (Kd.R_far (p := ⟨gb271, 1, none⟩) (Kd.R_far (p := ⟨gb271, 0, none⟩) (Kd.R_mono HO_21.out (fun k_ hk => (⟨hk, hk.2⟩ : _ ∧ k_ ≠ gb271))) (fun _ hk => hk.2) (.string ((rd_T81 t261 x23_2).f0))) (fun _ hk => hk.2) (.int .i64 ((rd_T81 t261 x23_2).f1))) (fun _ hk => ⟨hk.1.1, hk.1.2⟩)⟩
                 have n3_ : Aside0 (Kd.R k81 81 ((w57.setCell ⟨gb271, 0, none⟩ (.string ((rd_T81 t261 x23_2).f0))).setCell ⟨gb271, 1, none⟩ (.int .i64 ((rd_T81 t261 x23_2).f1))) w.heap.size (fun k_ => k_ ≠ gb266 ∧ k_ ≠ gb271) (.slice (some ad265) t261.length co8) t261) := ⟨by (with_reducible repeat (first | apply Kd.R_alloc | apply Kd.R_drewN | apply Kd.R_drew)); exact Kd.R_mono (Kd.R_far (p := ⟨gb271, 1, none⟩) (Kd.R_far (p := ⟨gb271, 0, none⟩) (Kd.R_mono HO_265000.out (fun k_ hk => (⟨hk, hk.2⟩ : _ ∧ k_ ≠ gb271))) (fun _ hk => hk.2) (.string ((rd_T81 t261 x23_2).f0))) (fun _ hk => hk.2) (.int .i64 ((rd_T81 t261 x23_2).f1))) (fun _ hk => ⟨hk.1.1, hk.1.2⟩)⟩
                 have n4_ : Aside0 (Kd.S (Kd.slice 3 (Kd.int .i64)) 75 ((w57.setCell ⟨gb271, 0, none⟩ (.string ((rd_T81 t261 x23_2).f0))).setCell ⟨gb271, 1, none⟩ (.int .i64 ((rd_T81 t261 x23_2).f1))) w.heap.size (fun k_ => some k_ ≠ (u6 : Value).ownBlock) u265001 x265001_1) := ⟨by (with_reducible repeat (first | apply Kd.S_alloc | apply Kd.S_drewN | apply Kd.S_drew)); exact Kd.S_mono (Kd.S_far (p := ⟨gb271, 1, none⟩) (Kd.S_far (p := ⟨gb271, 0, none⟩) (Kd.S_types HO_265001.out BK271.out (by decide)) (fun _ hk => hk.2) (.string ((rd_T81 t261 x23_2).f0))) (fun _ hk => hk.2) (.int .i64 ((rd_T81 t261 x23_2).f1))) (fun _ hk => hk.1)⟩
                 have n5_ : Aside0 (((w57.setCell ⟨gb271, 0, none⟩ (.string ((rd_T81 t261 x23_2).f0))).setCell ⟨gb271, 1, none⟩ (.int .i64 ((rd_T81 t261 x23_2).f1))).heap[gb259]? = some (.cells #[.slice A0_0 l0_0.length c0_0, .slice A0_1 l0_1.length c0_1] 31 (0, 0))) := ⟨by (with_reducible repeat (first | refine blk_drewN ?_ _ | refine blk_drew ?_ | refine blk_alloc ?_ _)); refine blk_far ?_ NB259_271.out _; refine blk_far ?_ NB259_271.out _; (with_reducible repeat (first | refine blk_drewN ?_ _ | refine blk_drew ?_ | refine blk_alloc ?_ _)); exact BK259.out⟩
                 have n6_ : Aside0 (((w57.setCell ⟨gb271, 0, none⟩ (.string ((rd_T81 t261 x23_2).f0))).setCell ⟨gb271, 1, none⟩ (.int .i64 ((rd_T81 t261 x23_2).f1))).heap[gb260]? = some (.cells #[.slice none 0 0, .slice none 0 0] 72 (0, 0))) := ⟨by (with_reducible repeat (first | refine blk_drewN ?_ _ | refine blk_drew ?_ | refine blk_alloc ?_ _)); refine blk_far ?_ NB260_271.out _; refine blk_far ?_ NB260_271.out _; (with_reducible repeat (first | refine blk_drewN ?_ _ | refine blk_drew ?_ | refine blk_alloc ?_ _)); exact BK260.out⟩
                 have n7_ : Aside0 (((w57.setCell ⟨gb271, 0, none⟩ (.string ((rd_T81 t261 x23_2).f0))).setCell ⟨gb271, 1, none⟩ (.int .i64 ((rd_T81 t261 x23_2).f1))).heap[gb264]? = some (.cells #[.slice (some ad265) t261.length co8, u265001] 72 (0, 0))) := ⟨by (with_reducible repeat (first | refine blk_drewN ?_ _ | refine blk_drew ?_ | refine blk_alloc ?_ _)); refine blk_far ?_ NB264_271.out _; refine blk_far ?_ NB264_271.out _; (with_reducible repeat (first | refine blk_drewN ?_ _ | refine blk_drew ?_ | refine blk_alloc ?_ _)); exact BK264.out⟩
                 have n8_ : Aside0 (((w57.setCell ⟨gb271, 0, none⟩ (.string ((rd_T81 t261 x23_2).f0))).setCell ⟨gb271, 1, none⟩ (.int .i64 ((rd_T81 t261 x23_2).f1))).heap[gb266]? = some (.cells #[.string ((rd_T81 t261 x15_1).f0), .int .i64 ((rd_T81 t261 x15_1).f1)] 81 (0, 0))) := ⟨by (with_reducible repeat (first | refine blk_drewN ?_ _ | refine blk_drew ?_ | refine blk_alloc ?_ _)); refine blk_far ?_ NB266_271.out _; refine blk_far ?_ NB266_271.out _; (with_reducible repeat (first | refine blk_drewN ?_ _ | refine blk_drew ?_ | refine blk_alloc ?_ _)); exact BK266.out⟩
                 have n9_ : Aside0 (((w57.setCell ⟨gb271, 0, none⟩ (.string ((rd_T81 t261 x23_2).f0))).setCell ⟨gb271, 1, none⟩ (.int .i64 ((rd_T81 t261 x23_2).f1))).heap[gb271]? = some (.cells #[.string ((rd_T81 t261 x23_2).f0), .int .i64 ((rd_T81 t261 x23_2).f1)] 81 (0, 0))) := ⟨by (with_reducible repeat (first | refine blk_drewN ?_ _ | refine blk_drew ?_ | refine blk_alloc ?_ _)); refine blk_put (cs := #[.string ((rd_T81 t261 x23_2).f0), .int .i64 0]) ?_ 1 _ rfl; refine blk_put (cs := #[.string (⟨#[]⟩ : ByteArray), .int .i64 0]) ?_ 0 _ rfl; (with_reducible repeat (first | refine blk_drewN ?_ _ | refine blk_drew ?_ | refine blk_alloc ?_ _)); exact BK271.out⟩
                 have n10_ : Aside0 (Below w.heap.size w ((w57.setCell ⟨gb271, 0, none⟩ (.string ((rd_T81 t261 x23_2).f0))).setCell ⟨gb271, 1, none⟩ (.int .i64 ((rd_T81 t261 x23_2).f1)))) := ⟨by repeat (first | (with_reducible first | exact HB.out | apply bwA | apply pwN | apply bw1 | refine below_set ?_ GE259.out | refine below_set ?_ GE260.out | refine below_set ?_ GE264.out | refine below_set ?_ GE266.out | refine below_set ?_ GE271.out) | exact HB.out)⟩
                 (try clear HO_6)
                 (try clear HO_13)
                 (try clear HO_21)
                 (try clear HO_265000)
                 (try clear HO_265001)
                 (try clear BK259)
                 (try clear BK260)
                 (try clear BK264)
                 (try clear BK266)
                 (try clear BK271)
                 (try clear HB)
                 generalize ((w57.setCell ⟨gb271, 0, none⟩ (.string ((rd_T81 t261 x23_2).f0))).setCell ⟨gb271, 1, none⟩ (.int .i64 ((rd_T81 t261 x23_2).f1))) = w63 at n0_ n1_ n2_ n3_ n4_ n5_ n6_ n7_ n8_ n9_ n10_ ⊢
                 have HO_6 := n0_
                 have HO_13 := n1_
                 have HO_21 := n2_
                 have HO_265000 := n3_
                 have HO_265001 := n4_
                 have BK259 := n5_
                 have BK260 := n6_
                 have BK264 := n7_
                 have BK266 := n8_
                 have BK271 := n9_
                 have HB := n10_
                 clear n0_ n1_ n2_ n3_ n4_ n5_ n6_ n7_ n8_ n9_ n10_
                 have n0_ := Aside0.mk (Kd.R_drew HO_6.out)
                 have n1_ := Aside0.mk (Kd.R_drew HO_13.out)
                 have n2_ := Aside0.mk (Kd.R_drew HO_21.out)
                 have n3_ := Aside0.mk (Kd.R_drew HO_265000.out)
                 have n4_ := Aside0.mk (Kd.S_drew HO_265001.out)
                 have n5_ := Aside0.mk (blk_drew BK259.out)
                 have n6_ := Aside0.mk (blk_drew BK260.out)
                 have n7_ := Aside0.mk (blk_drew BK264.out)
                 have n8_ := Aside0.mk (blk_drew BK266.out)
                 have n9_ := Aside0.mk (blk_drew BK271.out)
                 have n10_ := Aside0.mk (bw1 HB.out)
                 clear HO_6
                 clear HO_13
                 clear HO_21
                 clear HO_265000
                 clear HO_265001
                 clear BK259
                 clear BK260
                 clear BK264
                 clear BK266
                 clear BK271
                 clear HB
                 have HO_6 := n0_
                 have HO_13 := n1_
                 have HO_21 := n2_
                 have HO_265000 := n3_
                 have HO_265001 := n4_
                 have BK259 := n5_
                 have BK260 := n6_
                 have BK264 := n7_
                 have BK266 := n8_
                 have BK271 := n9_
                 have HB := n10_
                 clear n0_ n1_ n2_ n3_ n4_ n5_ n6_ n7_ n8_ n9_ n10_
                 have p42 : 0 ≤ (0 : Int) := (by omega)
                 have q42 : 0 < ((rd_T81 t261 x15_1).f0).size := (by have : (0 : Int) < (((rd_T81 t261 x15_1).f0).size : Int) := of_decide_eq_true (by first | (with_reducible assumption) | assumption); omega)
                 have hx42 : ∀ h : 0 < ((rd_T81 t261 x15_1).f0).size, ((((rd_T81 t261 x15_1).f0)[0]'h).toNat : Int) = bt ((rd_T81 t261 x15_1).f0) 0 := bt_at ((rd_T81 t261 x15_1).f0) 0
                 clear p42
                 have qi42 : (0 < (((rd_T81 t261 x15_1).f0).size : Int)) = True := eq_true (of_decide_eq_true (by first | (with_reducible assumption) | assumption))
                 replace q42 := eq_true q42
                 have p44 : 0 ≤ (0 : Int) := (by omega)
                 have q44 : 0 < ((rd_T81 t261 x23_2).f0).size := (by have : (0 : Int) < (((rd_T81 t261 x23_2).f0).size : Int) := of_decide_eq_true (by first | (with_reducible assumption) | assumption); omega)
                 have hx44 : ∀ h : 0 < ((rd_T81 t261 x23_2).f0).size, ((((rd_T81 t261 x23_2).f0)[0]'h).toNat : Int) = bt ((rd_T81 t261 x23_2).f0) 0 := bt_at ((rd_T81 t261 x23_2).f0) 0
                 clear p44
                 have qi44 : (0 < (((rd_T81 t261 x23_2).f0).size : Int)) = True := eq_true (of_decide_eq_true (by first | (with_reducible assumption) | assumption))
                 replace q44 := eq_true q44
                 refine start_ (n := 22) (S := fun w' => w'.cell? ⟨gb271, 0, none⟩ = some (.string ((rd_T81 t261 x23_2).f0)) ∧ w'.cell? ⟨gb271, 1, none⟩ = some (.int .i64 ((rd_T81 t261 x23_2).f1)) ∧ w'.cell? ⟨gb266, 0, none⟩ = some (.string ((rd_T81 t261 x15_1).f0)) ∧ w'.cell? ⟨gb266, 1, none⟩ = some (.int .i64 ((rd_T81 t261 x15_1).f1)) ∧ w'.cell? ⟨gb259, 0, none⟩ = some (.slice A0_0 l0_0.length c0_0) ∧ w'.cell? ⟨gb259, 1, none⟩ = some (.slice A0_1 l0_1.length c0_1)) (ds := []) #[false, false, false, false, false, false, false, false, false, false, false, false, false, false, false, false, false, false, false, false, false, false] (by kernel_rfl) rfl rfl ⟨(blk_cell BK271.out 0).trans rfl, (blk_cell BK271.out 1).trans rfl, (blk_cell BK266.out 0).trans rfl, (blk_cell BK266.out 1).trans rfl, (blk_cell BK259.out 0).trans rfl, (blk_cell BK259.out 1).trans rfl⟩ (fun hHeld => ?_); refine with_tabW impl_builderOf.tab9 impl_builderOf.bits9 (fun HT_ HW_ => ?_)
                 generalize w63.drew = w64 at HO_6 HO_13 HO_21 HO_265000 HO_265001 BK259 BK260 BK264 BK266 BK271 HB hHeld ⊢
                 refine pu_ 0 (some 28) HT_ ?_
                 refine pu_ 2 (some 30) HT_ ?_
                 refine tk_ 1 (some 29) HT_ HW_ hHeld rfl (by rintro w' ⟨s0, s1, s2, s3, s4, s5⟩; go_simp; with_reducible rfl) ?_
                 refine tk_ 3 (some 31) HT_ HW_ hHeld rfl (by rintro w' ⟨s0, s1, s2, s3, s4, s5⟩; go_simp; with_reducible rfl) ?_
                 refine pu_ 4 (some 32) HT_ ?_
                 refine pu_ 5 (some 33) HT_ ?_
                 refine pu_ 6 (some 34) HT_ ?_
                 refine tk_ 7 (some 35) HT_ HW_ hHeld rfl (by rintro w' ⟨s0, s1, s2, s3, s4, s5⟩; go_simp; with_reducible rfl) ?_
                 refine pu_ 8 (some 36) HT_ ?_
                 refine pu_ 9 (some 37) HT_ ?_
                 refine pu_ 10 (some 38) HT_ ?_
                 refine pu_ 12 (some 40) HT_ ?_
                 refine pu_ 15 (some 43) HT_ ?_
                 refine tk_ 11 (some 39) HT_ HW_ hHeld rfl (by rintro w' ⟨s0, s1, s2, s3, s4, s5⟩; go_simp; with_reducible rfl) ?_
                 refine tk_ 13 (some 41) HT_ HW_ hHeld rfl (by rintro w' ⟨s0, s1, s2, s3, s4, s5⟩; go_simp; with_reducible rfl) ?_
                 refine tk_ 14 (some 42) HT_ HW_ hHeld rfl (by rintro w' ⟨s0, s1, s2, s3, s4, s5⟩; go_simp; with_reducible rfl) ?_
                 refine tk_ 16 (some 44) HT_ HW_ hHeld rfl (by rintro w' ⟨s0, s1, s2, s3, s4, s5⟩; go_simp; with_reducible rfl) ?_
                 refine tk_ 17 (some 45) HT_ HW_ hHeld rfl (by rintro w' ⟨s0, s1, s2, s3, s4, s5⟩; go_simp; with_reducible rfl) ?_
                 refine on_ 18 (some 46) HT_ fun K hK => ?_
                 refine goes_ Try.func66 (by kernel_rfl) rfl #[.agg #[.slice A0_0 l0_0.length c0_0, .slice A0_1 l0_1.length c0_1], .int .u8 (bt ((rd_T81 t261 x15_1).f0) 0), .int .u8 (bt ((rd_T81 t261 x23_2).f0) 0)] (by rfl) rfl rfl (by (try simp only [List.map_toArray, List.map_cons, List.map_nil]); first | done | rfl | (simp only [List.length_drop, List.length_take]; rfl)) ?_
                 with_reducible refine (impl_System_isMinus.calls _ _ l0_0 _ _ l0_1 (bt ((rd_T81 t261 x15_1).f0) 0) (bt ((rd_T81 t261 x23_2).f0) 0) false _ ?side1 ?side2 ?side3 ?side4 A45.out).mono ?_
                 (case side1 => repeat (first | exact (Kd.C_below HR0_0.out HB.out) | (with_reducible refine Kd.C_alloc ?_ _) | (with_reducible refine Kd.C_drewN ?_ _) | (with_reducible refine Kd.C_drew ?_)))
                 (case side2 => exact HC0_0.out)
                 (case side3 => repeat (first | exact (Kd.C_below HR0_1.out HB.out) | (with_reducible refine Kd.C_alloc ?_ _) | (with_reducible refine Kd.C_drewN ?_ _) | (with_reducible refine Kd.C_drew ?_)))
                 (case side4 => exact HC0_1.out)
                 rintro e w65 ⟨rfl, hb⟩
                 refine ⟨_, rfl, ?_⟩
                 have n0_ := Aside0.mk (Kd.R_below (by (with_reducible repeat (first | apply Kd.R_alloc | apply Kd.R_drewN | apply Kd.R_drew)); exact HO_6.out) hb)
                 have n1_ := Aside0.mk (Kd.R_below (by (with_reducible repeat (first | apply Kd.R_alloc | apply Kd.R_drewN | apply Kd.R_drew)); exact HO_13.out) hb)
                 have n2_ := Aside0.mk (Kd.R_below (by (with_reducible repeat (first | apply Kd.R_alloc | apply Kd.R_drewN | apply Kd.R_drew)); exact HO_21.out) hb)
                 have n3_ := Aside0.mk (Kd.R_below (by (with_reducible repeat (first | apply Kd.R_alloc | apply Kd.R_drewN | apply Kd.R_drew)); exact HO_265000.out) hb)
                 have n4_ := Aside0.mk (Kd.S_below (by (with_reducible repeat (first | apply Kd.S_alloc | apply Kd.S_drewN | apply Kd.S_drew)); exact HO_265001.out) hb)
                 have n5_ := Aside0.mk (blk_below (g := gb259) (by (with_reducible repeat (first | refine blk_drewN ?_ _ | refine blk_drew ?_ | refine blk_alloc ?_ _)); exact BK259.out) hb)
                 have n6_ := Aside0.mk (blk_below (g := gb260) (by (with_reducible repeat (first | refine blk_drewN ?_ _ | refine blk_drew ?_ | refine blk_alloc ?_ _)); exact BK260.out) hb)
                 have n7_ := Aside0.mk (blk_below (g := gb264) (by (with_reducible repeat (first | refine blk_drewN ?_ _ | refine blk_drew ?_ | refine blk_alloc ?_ _)); exact BK264.out) hb)
                 have n8_ := Aside0.mk (blk_below (g := gb266) (by (with_reducible repeat (first | refine blk_drewN ?_ _ | refine blk_drew ?_ | refine blk_alloc ?_ _)); exact BK266.out) hb)
                 have n9_ := Aside0.mk (blk_below (g := gb271) (by (with_reducible repeat (first | refine blk_drewN ?_ _ | refine blk_drew ?_ | refine blk_alloc ?_ _)); exact BK271.out) hb)
                 have n10_ := Aside0.mk (below_step (by repeat (first | (with_reducible first | exact HB.out | apply bwA | apply pwN | apply bw1 | refine below_set ?_ GE259.out | refine below_set ?_ GE260.out | refine below_set ?_ GE264.out | refine below_set ?_ GE266.out | refine below_set ?_ GE271.out) | exact HB.out)) hb)
                 clear HO_6
                 clear HO_13
                 clear HO_21
                 clear HO_265000
                 clear HO_265001
                 clear BK259
                 clear BK260
                 clear BK264
                 clear BK266
                 clear BK271
                 clear HB
                 have HO_6 := n0_
                 have HO_13 := n1_
                 have HO_21 := n2_
                 have HO_265000 := n3_
                 have HO_265001 := n4_
                 have BK259 := n5_
                 have BK260 := n6_
                 have BK264 := n7_
                 have BK266 := n8_
                 have BK271 := n9_
                 have HB := n10_
                 clear n0_ n1_ n2_ n3_ n4_ n5_ n6_ n7_ n8_ n9_ n10_
                 (try clear hb)
                 (try clear hb2)
                 (try clear hk)
                 (try clear hi)
                 refine hK.out _ _ ⟨(blk_cell BK271.out 0).trans rfl, (blk_cell BK271.out 1).trans rfl, (blk_cell BK266.out 0).trans rfl, (blk_cell BK266.out 1).trans rfl, (blk_cell BK259.out 0).trans rfl, (blk_cell BK259.out 1).trans rfl⟩ (fun hHeld => ?_)
                 clear hK K
                 refine nm_ (some 46) ?_
                 refine pu_ 19 (some 47) HT_ ?_
                 refine pu_ 20 (some 48) HT_ ?_
                 refine pu_ 21 (some 49) HT_ ?_
                 refine done_ (done_of HT_.out (by kernel_rfl)) ?_
                 try go_wp2_with (first | ((with_reducible refine gate_builtin (b := .append) (xs := #[.tmp 50, .tmp 52]) rfl ?_); (try (refine gate_guard (by rfl) ?_; dsimp only)); at_builtin; refine Kd.R_append (Kd.int .i64) (w0 := w) w.heap.size rfl (.tmp 50) (.tmp 52) 75 3 (.int .i64 0) 8 rfl Try.underlying75 info3 rfl (by decide) (by omega) u6 x6_2 x23_2 [.int .i64 x23_2] (fun _ => True) (fun _ => False) rfl rfl ?aP (fun _ hk => hk.elim) ?aF ?aO ?aB ?aS ?aL ?_; (case aP => exact rfl); (case aB => exact (by repeat (first | (with_reducible first | exact HB.out | apply bwA | apply pwN | apply bw1 | refine below_set ?_ GE259.out | refine below_set ?_ GE260.out | refine below_set ?_ GE264.out | refine below_set ?_ GE266.out | refine below_set ?_ GE271.out) | exact HB.out))); (case aF => exact (fun _ _ => trivial)); (case aO => exact (by (with_reducible repeat (first | apply Kd.R_alloc | apply Kd.R_drewN | apply Kd.R_drew)); exact HO_6.out)); (case aS => exact (below_size (by repeat (first | (with_reducible first | exact HB.out | apply bwA | apply pwN | apply bw1 | refine below_set ?_ GE259.out | refine below_set ?_ GE260.out | refine below_set ?_ GE264.out | refine below_set ?_ GE266.out | refine below_set ?_ GE271.out) | exact HB.out)))); (case aL => have := LMc56.out; omega); intro v277 w66 ho hb hg hat; rw [← Ny276.out] at ho; have n0_ := Aside0.mk (Kd.R_over' (by (with_reducible repeat (first | apply Kd.R_alloc | apply Kd.R_drewN | apply Kd.R_drew)); exact HO_13.out) (Kd.R_typed (by (with_reducible repeat (first | apply Kd.R_alloc | apply Kd.R_drewN | apply Kd.R_drew)); exact HO_6.out)) (by decide) hg); have n1_ := Aside0.mk (Kd.R_over' (by (with_reducible repeat (first | apply Kd.R_alloc | apply Kd.R_drewN | apply Kd.R_drew)); exact HO_21.out) (Kd.R_typed (by (with_reducible repeat (first | apply Kd.R_alloc | apply Kd.R_drewN | apply Kd.R_drew)); exact HO_6.out)) (by decide) hg); have n2_ := Aside0.mk (Kd.R_over' (by (with_reducible repeat (first | apply Kd.R_alloc | apply Kd.R_drewN | apply Kd.R_drew)); exact HO_265000.out) (Kd.R_typed (by (with_reducible repeat (first | apply Kd.R_alloc | apply Kd.R_drewN | apply Kd.R_drew)); exact HO_6.out)) (by decide) hg); have n3_ := Aside0.mk (Kd.S_after (ok := (fun _ => True)) (by (with_reducible repeat (first | apply Kd.S_alloc | apply Kd.S_drewN | apply Kd.S_drew)); exact Kd.S_mono HO_265001.out (fun _ hk => ⟨trivial, hk⟩)) hg hat); have n4_ := Aside0.mk (blk_grown (g := gb259) (by (with_reducible repeat (first | refine blk_drewN ?_ _ | refine blk_drew ?_ | refine blk_alloc ?_ _)); exact BK259.out) hg (Kd.R_ne HO_6.out BK259.out (by decide))); have n5_ := Aside0.mk (blk_grown (g := gb260) (by (with_reducible repeat (first | refine blk_drewN ?_ _ | refine blk_drew ?_ | refine blk_alloc ?_ _)); exact BK260.out) hg (Kd.R_ne HO_6.out BK260.out (by decide))); have n6_ := Aside0.mk (blk_grown (g := gb264) (by (with_reducible repeat (first | refine blk_drewN ?_ _ | refine blk_drew ?_ | refine blk_alloc ?_ _)); exact BK264.out) hg (Kd.R_ne HO_6.out BK264.out (by decide))); have n7_ := Aside0.mk (blk_grown (g := gb266) (by (with_reducible repeat (first | refine blk_drewN ?_ _ | refine blk_drew ?_ | refine blk_alloc ?_ _)); exact BK266.out) hg (Kd.R_ne HO_6.out BK266.out (by decide))); have n8_ := Aside0.mk (blk_grown (g := gb271) (by (with_reducible repeat (first | refine blk_drewN ?_ _ | refine blk_drew ?_ | refine blk_alloc ?_ _)); exact BK271.out) hg (Kd.R_ne HO_6.out BK271.out (by decide))); have n9_ := Aside0.mk (hb); have n10_ := Aside0.mk (ho); clear HO_13; clear HO_21; clear HO_265000; clear HO_265001; clear BK259; clear BK260; clear BK264; clear BK266; clear BK271; clear HB; clear HO_6; have HO_13 := n0_; have HO_21 := n1_; have HO_265000 := n2_; have HO_265001 := n3_; have BK259 := n4_; have BK260 := n5_; have BK264 := n6_; have BK266 := n7_; have BK271 := n8_; have HB := n9_; have HO278 := n10_; clear n0_ n1_ n2_ n3_ n4_ n5_ n6_ n7_ n8_ n9_ n10_; clear ho hb hg hat))
                 go_roundg k2
                 case measure => have := HK1.out; have := HK2.out; omega
                 case rel => exact ⟨(y276), (wrap64 (x23_2 + 1)), (by first | rfl | (simp; done) | (simp [*]; done)), H', ⟨by have := HK1.out; have := HK2.out; omega⟩, ⟨by (with_reducible repeat (first | apply Kd.R_alloc | apply Kd.R_drewN | apply Kd.R_drew)); exact HO278.out⟩, ⟨by (with_reducible repeat (first | apply Kd.R_alloc | apply Kd.R_drewN | apply Kd.R_drew)); exact Kd.R_mono HO_13.out (fun _ hk => hk.1)⟩, ⟨by (with_reducible repeat (first | apply Kd.R_alloc | apply Kd.R_drewN | apply Kd.R_drew)); exact Kd.R_mono HO_21.out (fun _ hk => hk.1)⟩, ⟨by (with_reducible repeat (first | apply Kd.R_alloc | apply Kd.R_drewN | apply Kd.R_drew)); exact Kd.R_mono HO_265000.out (fun _ hk => hk.1)⟩, ⟨by (with_reducible repeat (first | apply Kd.S_alloc | apply Kd.S_drewN | apply Kd.S_drew)); exact Kd.S_mono HO_265001.out (fun _ hk => hk.2)⟩, ⟨by (with_reducible repeat (first | refine blk_drewN ?_ _ | refine blk_drew ?_ | refine blk_alloc ?_ _)); exact BK259.out⟩, ⟨by (with_reducible repeat (first | refine blk_drewN ?_ _ | refine blk_drew ?_ | refine blk_alloc ?_ _)); exact BK260.out⟩, ⟨by (with_reducible repeat (first | refine blk_drewN ?_ _ | refine blk_drew ?_ | refine blk_alloc ?_ _)); exact BK264.out⟩, ⟨by (with_reducible repeat (first | refine blk_drewN ?_ _ | refine blk_drew ?_ | refine blk_alloc ?_ _)); exact BK266.out⟩, ⟨by repeat (first | (with_reducible first | exact HB.out | apply bwA | apply pwN | apply bw1 | refine below_set ?_ GE259.out | refine below_set ?_ GE260.out | refine below_set ?_ GE264.out | refine below_set ?_ GE266.out | refine below_set ?_ GE271.out) | exact HB.out)⟩⟩
                ·rw [if_neg c56] at H
                 exact absurd H (by simp)
              ·rw [if_neg c43] at H
               exact absurd H (by simp)
             ·rw [if_neg c41] at H
              exact absurd H (by simp)
           ·rw [if_neg c29] at H
            have c29b0 : decide (((rd_T81 t261 x23_2).f1) ≤ ((rd_T81 t261 x15_1).f1)) = false := decide_eq_false c29
            clear c29
            have H' := Aside0.mk H
            clear H
            have p270 : 0 ≤ (x23_2 : Int) := of_decide_eq_true (by first | (with_reducible assumption) | assumption)
            have q270 : x23_2 < (t261.length : Int) := of_decide_eq_true (by first | (with_reducible assumption) | assumption)
            obtain ⟨ad270, e270, hx270_0, hx270_1⟩ := at_T81 (Kd.R_reads' HO_21.out).2.2 x23_2 p270 q270
            obtain rfl : ad265 = ad270 := (by injection e270)
            replace p270 := eq_true p270
            replace q270 := eq_true q270
            try go_wp2_with (first | ((with_reducible refine gate_dst (N := 8) rfl ?_); (try (refine gate_guard (by rfl) ?_; dsimp only)); refine box_event ?hg (N := 8) ?hd (cs := #[.string (⟨#[]⟩ : ByteArray), .int .i64 0]) (t := 81) ?hr ?_; (case hd => rfl); (case hg => rfl); (case hr => first | (go_simp; done) | (go_simp; rfl)); intro gb271 hg w67 hbox hb; have n0_ := Aside0.mk (Kd.R_below (by (with_reducible repeat (first | apply Kd.R_alloc | apply Kd.R_drewN | apply Kd.R_drew)); exact HO_6.out) hb); have n1_ := Aside0.mk (Kd.R_below (Kd.R_elderB (by (with_reducible repeat (first | apply Kd.R_alloc | apply Kd.R_drewN | apply Kd.R_drew)); exact HO_13.out) gb271 (Nat.le_of_eq hg.symm)) hb); have n2_ := Aside0.mk (Kd.R_below (Kd.R_elderB (by (with_reducible repeat (first | apply Kd.R_alloc | apply Kd.R_drewN | apply Kd.R_drew)); exact HO_21.out) gb271 (Nat.le_of_eq hg.symm)) hb); have n3_ := Aside0.mk (Kd.R_below (Kd.R_elderB (by (with_reducible repeat (first | apply Kd.R_alloc | apply Kd.R_drewN | apply Kd.R_drew)); exact HO_265000.out) gb271 (Nat.le_of_eq hg.symm)) hb); have n4_ := Aside0.mk (Kd.S_below (by (with_reducible repeat (first | apply Kd.S_alloc | apply Kd.S_drewN | apply Kd.S_drew)); exact HO_265001.out) hb); have n5_ := Aside0.mk (blk_below (g := gb259) (by (with_reducible repeat (first | refine blk_drewN ?_ _ | refine blk_drew ?_ | refine blk_alloc ?_ _)); exact BK259.out) hb); have n6_ := Aside0.mk (blk_below (g := gb260) (by (with_reducible repeat (first | refine blk_drewN ?_ _ | refine blk_drew ?_ | refine blk_alloc ?_ _)); exact BK260.out) hb); have n7_ := Aside0.mk (blk_below (g := gb264) (by (with_reducible repeat (first | refine blk_drewN ?_ _ | refine blk_drew ?_ | refine blk_alloc ?_ _)); exact BK264.out) hb); have n8_ := Aside0.mk (blk_below (g := gb266) (by (with_reducible repeat (first | refine blk_drewN ?_ _ | refine blk_drew ?_ | refine blk_alloc ?_ _)); exact BK266.out) hb); have n9_ := Aside0.mk (below_step (by repeat (first | (with_reducible first | exact HB.out | apply bwA | apply pwN | apply bw1 | refine below_set ?_ GE259.out | refine below_set ?_ GE260.out | refine below_set ?_ GE264.out | refine below_set ?_ GE266.out) | exact HB.out)) hb); have n10_ := Aside0.mk (hbox); have n11_ := Aside0.mk ((by rw [hg]; exact (below_size (by repeat (first | (with_reducible first | exact HB.out | apply bwA | apply pwN | apply bw1 | refine below_set ?_ GE259.out | refine below_set ?_ GE260.out | refine below_set ?_ GE264.out | refine below_set ?_ GE266.out) | exact HB.out))) : w.heap.size ≤ gb271)); have n12_ := Aside0.mk (n11_.out); have n13_ := Aside0.mk ((by rw [hg]; exact Nat.ne_of_lt (blk_lt (g := gb259) (by (with_reducible repeat (first | refine blk_drewN ?_ _ | refine blk_drew ?_ | refine blk_alloc ?_ _)); exact BK259.out)) : gb259 ≠ gb271)); have n14_ := Aside0.mk ((Ne.symm n13_.out)); have n15_ := Aside0.mk ((by rw [hg]; exact Nat.ne_of_lt (blk_lt (g := gb260) (by (with_reducible repeat (first | refine blk_drewN ?_ _ | refine blk_drew ?_ | refine blk_alloc ?_ _)); exact BK260.out)) : gb260 ≠ gb271)); have n16_ := Aside0.mk ((Ne.symm n15_.out)); have n17_ := Aside0.mk ((by rw [hg]; exact Nat.ne_of_lt (blk_lt (g := gb264) (by (with_reducible repeat (first | refine blk_drewN ?_ _ | refine blk_drew ?_ | refine blk_alloc ?_ _)); exact BK264.out)) : gb264 ≠ gb271)); have n18_ := Aside0.mk ((Ne.symm n17_.out)); have n19_ := Aside0.mk ((by rw [hg]; exact Nat.ne_of_lt (blk_lt (g := gb266) (by (with_reducible repeat (first | refine blk_drewN ?_ _ | refine blk_drew ?_ | refine blk_alloc ?_ _)); exact BK266.out)) : gb266 ≠ gb271)); have n20_ := Aside0.mk ((Ne.symm n19_.out)); clear HO_6; clear HO_13; clear HO_21; clear HO_265000; clear HO_265001; clear BK259; clear BK260; clear BK264; clear BK266; clear HB; have HO_6 := n0_; have HO_13 := n1_; have HO_21 := n2_; have HO_265000 := n3_; have HO_265001 := n4_; have BK259 := n5_; have BK260 := n6_; have BK264 := n7_; have BK266 := n8_; have HB := n9_; have BK271 := n10_; have GW271 := n11_; have GE271 := n12_; have NB259_271 := n13_; have NB271_259 := n14_; have NB260_271 := n15_; have NB271_260 := n16_; have NB264_271 := n17_; have NB271_264 := n18_; have NB266_271 := n19_; have NB271_266 := n20_; clear n0_ n1_ n2_ n3_ n4_ n5_ n6_ n7_ n8_ n9_ n10_ n11_ n12_ n13_ n14_ n15_ n16_ n17_ n18_ n19_ n20_; clear hb hbox hg; have hnb68 := NB271_259.out; have hnc68 := NB259_271.out; have hnb69 := NB271_260.out; have hnc69 := NB260_271.out; have hnb70 := NB271_264.out; have hnc70 := NB264_271.out; have hnb71 := NB271_266.out; have hnc71 := NB266_271.out; have hcz72_0 : w67.cell? ⟨gb271, 0, none⟩ = some (.string (⟨#[]⟩ : ByteArray)) := (blk_cell BK271.out 0).trans rfl; have hcz72_1 : w67.cell? ⟨gb271, 1, none⟩ = some (.int .i64 0) := (blk_cell BK271.out 1).trans rfl; have hfz72_0 := blk_frozen BK271.out 0; have hfz72_1 := blk_frozen BK271.out 1))
            have n0_ : Aside0 (Kd.R (Kd.int .i64) 3 ((w67.setCell ⟨gb271, 0, none⟩ (.string ((rd_T81 t261 x23_2).f0))).setCell ⟨gb271, 1, none⟩ (.int .i64 ((rd_T81 t261 x23_2).f1))) w.heap.size (fun _ => True) u6 x6_2) := ⟨by (with_reducible repeat (first | apply Kd.R_alloc | apply Kd.R_drewN | apply Kd.R_drew)); exact Kd.R_mono (Kd.R_far (p := ⟨gb271, 1, none⟩) (Kd.R_far (p := ⟨gb271, 0, none⟩) (Kd.R_types HO_6.out BK271.out (by decide)) (fun _ hk => hk.2) (.string ((rd_T81 t261 x23_2).f0))) (fun _ hk => hk.2) (.int .i64 ((rd_T81 t261 x23_2).f1))) (fun _ hk => trivial)⟩
            have n1_ : Aside0 (Kd.R k81 81 ((w67.setCell ⟨gb271, 0, none⟩ (.string ((rd_T81 t261 x23_2).f0))).setCell ⟨gb271, 1, none⟩ (.int .i64 ((rd_T81 t261 x23_2).f1))) w.heap.size (fun k_ => k_ ≠ gb266 ∧ k_ ≠ gb271) (.slice (some ad265) t261.length co8) t261) := ⟨by (with_reducible repeat (first | apply Kd.R_alloc | apply Kd.R_drewN | apply Kd.R_drew)); exact Kd.R_mono (Kd.R_far (p := ⟨gb271, 1, none⟩) (Kd.R_far (p := ⟨gb271, 0, none⟩) (Kd.R_mono HO_13.out (fun k_ hk => (⟨hk, hk.2⟩ : _ ∧ k_ ≠ gb271))) (fun _ hk => hk.2) (.string ((rd_T81 t261 x23_2).f0))) (fun _ hk => hk.2) (.int .i64 ((rd_T81 t261 x23_2).f1))) (fun _ hk => ⟨hk.1.1, hk.1.2⟩)⟩
            have n2_ : Aside0 (Kd.R k81 81 ((w67.setCell ⟨gb271, 0, none⟩ (.string ((rd_T81 t261 x23_2).f0))).setCell ⟨gb271, 1, none⟩ (.int .i64 ((rd_T81 t261 x23_2).f1))) w.heap.size (fun k_ => k_ ≠ gb266 ∧ k_ ≠ gb271) (.slice (some ad265) t261.length co8) t261) := ⟨by (with_reducible repeat (first | apply Kd.R_alloc | apply Kd.R_drewN | apply Kd.R_drew)); exact Kd.R_mono (Kd.R_far (p := ⟨gb271, 1, none⟩) (Kd.R_far (p := ⟨gb271, 0, none⟩) (Kd.R_mono HO_21.out (fun k_ hk => (⟨hk, hk.2⟩ : _ ∧ k_ ≠ gb271))) (fun _ hk => hk.2) (.string ((rd_T81 t261 x23_2).f0))) (fun _ hk => hk.2) (.int .i64 ((rd_T81 t261 x23_2).f1))) (fun _ hk => ⟨hk.1.1, hk.1.2⟩)⟩
            have n3_ : Aside0 (Kd.R k81 81 ((w67.setCell ⟨gb271, 0, none⟩ (.string ((rd_T81 t261 x23_2).f0))).setCell ⟨gb271, 1, none⟩ (.int .i64 ((rd_T81 t261 x23_2).f1))) w.heap.size (fun k_ => k_ ≠ gb266 ∧ k_ ≠ gb271) (.slice (some ad265) t261.length co8) t261) := ⟨by (with_reducible repeat (first | apply Kd.R_alloc | apply Kd.R_drewN | apply Kd.R_drew)); exact Kd.R_mono (Kd.R_far (p := ⟨gb271, 1, none⟩) (Kd.R_far (p := ⟨gb271, 0, none⟩) (Kd.R_mono HO_265000.out (fun k_ hk => (⟨hk, hk.2⟩ : _ ∧ k_ ≠ gb271))) (fun _ hk => hk.2) (.string ((rd_T81 t261 x23_2).f0))) (fun _ hk => hk.2) (.int .i64 ((rd_T81 t261 x23_2).f1))) (fun _ hk => ⟨hk.1.1, hk.1.2⟩)⟩
            have n4_ : Aside0 (Kd.S (Kd.slice 3 (Kd.int .i64)) 75 ((w67.setCell ⟨gb271, 0, none⟩ (.string ((rd_T81 t261 x23_2).f0))).setCell ⟨gb271, 1, none⟩ (.int .i64 ((rd_T81 t261 x23_2).f1))) w.heap.size (fun k_ => some k_ ≠ (u6 : Value).ownBlock) u265001 x265001_1) := ⟨by (with_reducible repeat (first | apply Kd.S_alloc | apply Kd.S_drewN | apply Kd.S_drew)); exact Kd.S_mono (Kd.S_far (p := ⟨gb271, 1, none⟩) (Kd.S_far (p := ⟨gb271, 0, none⟩) (Kd.S_types HO_265001.out BK271.out (by decide)) (fun _ hk => hk.2) (.string ((rd_T81 t261 x23_2).f0))) (fun _ hk => hk.2) (.int .i64 ((rd_T81 t261 x23_2).f1))) (fun _ hk => hk.1)⟩
            have n5_ : Aside0 (((w67.setCell ⟨gb271, 0, none⟩ (.string ((rd_T81 t261 x23_2).f0))).setCell ⟨gb271, 1, none⟩ (.int .i64 ((rd_T81 t261 x23_2).f1))).heap[gb259]? = some (.cells #[.slice A0_0 l0_0.length c0_0, .slice A0_1 l0_1.length c0_1] 31 (0, 0))) := ⟨by (with_reducible repeat (first | refine blk_drewN ?_ _ | refine blk_drew ?_ | refine blk_alloc ?_ _)); refine blk_far ?_ NB259_271.out _; refine blk_far ?_ NB259_271.out _; (with_reducible repeat (first | refine blk_drewN ?_ _ | refine blk_drew ?_ | refine blk_alloc ?_ _)); exact BK259.out⟩
            have n6_ : Aside0 (((w67.setCell ⟨gb271, 0, none⟩ (.string ((rd_T81 t261 x23_2).f0))).setCell ⟨gb271, 1, none⟩ (.int .i64 ((rd_T81 t261 x23_2).f1))).heap[gb260]? = some (.cells #[.slice none 0 0, .slice none 0 0] 72 (0, 0))) := ⟨by (with_reducible repeat (first | refine blk_drewN ?_ _ | refine blk_drew ?_ | refine blk_alloc ?_ _)); refine blk_far ?_ NB260_271.out _; refine blk_far ?_ NB260_271.out _; (with_reducible repeat (first | refine blk_drewN ?_ _ | refine blk_drew ?_ | refine blk_alloc ?_ _)); exact BK260.out⟩
            have n7_ : Aside0 (((w67.setCell ⟨gb271, 0, none⟩ (.string ((rd_T81 t261 x23_2).f0))).setCell ⟨gb271, 1, none⟩ (.int .i64 ((rd_T81 t261 x23_2).f1))).heap[gb264]? = some (.cells #[.slice (some ad265) t261.length co8, u265001] 72 (0, 0))) := ⟨by (with_reducible repeat (first | refine blk_drewN ?_ _ | refine blk_drew ?_ | refine blk_alloc ?_ _)); refine blk_far ?_ NB264_271.out _; refine blk_far ?_ NB264_271.out _; (with_reducible repeat (first | refine blk_drewN ?_ _ | refine blk_drew ?_ | refine blk_alloc ?_ _)); exact BK264.out⟩
            have n8_ : Aside0 (((w67.setCell ⟨gb271, 0, none⟩ (.string ((rd_T81 t261 x23_2).f0))).setCell ⟨gb271, 1, none⟩ (.int .i64 ((rd_T81 t261 x23_2).f1))).heap[gb266]? = some (.cells #[.string ((rd_T81 t261 x15_1).f0), .int .i64 ((rd_T81 t261 x15_1).f1)] 81 (0, 0))) := ⟨by (with_reducible repeat (first | refine blk_drewN ?_ _ | refine blk_drew ?_ | refine blk_alloc ?_ _)); refine blk_far ?_ NB266_271.out _; refine blk_far ?_ NB266_271.out _; (with_reducible repeat (first | refine blk_drewN ?_ _ | refine blk_drew ?_ | refine blk_alloc ?_ _)); exact BK266.out⟩
            have n9_ : Aside0 (((w67.setCell ⟨gb271, 0, none⟩ (.string ((rd_T81 t261 x23_2).f0))).setCell ⟨gb271, 1, none⟩ (.int .i64 ((rd_T81 t261 x23_2).f1))).heap[gb271]? = some (.cells #[.string ((rd_T81 t261 x23_2).f0), .int .i64 ((rd_T81 t261 x23_2).f1)] 81 (0, 0))) := ⟨by (with_reducible repeat (first | refine blk_drewN ?_ _ | refine blk_drew ?_ | refine blk_alloc ?_ _)); refine blk_put (cs := #[.string ((rd_T81 t261 x23_2).f0), .int .i64 0]) ?_ 1 _ rfl; refine blk_put (cs := #[.string (⟨#[]⟩ : ByteArray), .int .i64 0]) ?_ 0 _ rfl; (with_reducible repeat (first | refine blk_drewN ?_ _ | refine blk_drew ?_ | refine blk_alloc ?_ _)); exact BK271.out⟩
            have n10_ : Aside0 (Below w.heap.size w ((w67.setCell ⟨gb271, 0, none⟩ (.string ((rd_T81 t261 x23_2).f0))).setCell ⟨gb271, 1, none⟩ (.int .i64 ((rd_T81 t261 x23_2).f1)))) := ⟨by repeat (first | (with_reducible first | exact HB.out | apply bwA | apply pwN | apply bw1 | refine below_set ?_ GE259.out | refine below_set ?_ GE260.out | refine below_set ?_ GE264.out | refine below_set ?_ GE266.out | refine below_set ?_ GE271.out) | exact HB.out)⟩
            (try clear HO_6)
            (try clear HO_13)
            (try clear HO_21)
            (try clear HO_265000)
            (try clear HO_265001)
            (try clear BK259)
            (try clear BK260)
            (try clear BK264)
            (try clear BK266)
            (try clear BK271)
            (try clear HB)
            generalize ((w67.setCell ⟨gb271, 0, none⟩ (.string ((rd_T81 t261 x23_2).f0))).setCell ⟨gb271, 1, none⟩ (.int .i64 ((rd_T81 t261 x23_2).f1))) = w73 at n0_ n1_ n2_ n3_ n4_ n5_ n6_ n7_ n8_ n9_ n10_ ⊢
            have HO_6 := n0_
            have HO_13 := n1_
            have HO_21 := n2_
            have HO_265000 := n3_
            have HO_265001 := n4_
            have BK259 := n5_
            have BK260 := n6_
            have BK264 := n7_
            have BK266 := n8_
            have BK271 := n9_
            have HB := n10_
            clear n0_ n1_ n2_ n3_ n4_ n5_ n6_ n7_ n8_ n9_ n10_
            have n0_ := Aside0.mk (Kd.R_drew HO_6.out)
            have n1_ := Aside0.mk (Kd.R_drew HO_13.out)
            have n2_ := Aside0.mk (Kd.R_drew HO_21.out)
            have n3_ := Aside0.mk (Kd.R_drew HO_265000.out)
            have n4_ := Aside0.mk (Kd.S_drew HO_265001.out)
            have n5_ := Aside0.mk (blk_drew BK259.out)
            have n6_ := Aside0.mk (blk_drew BK260.out)
            have n7_ := Aside0.mk (blk_drew BK264.out)
            have n8_ := Aside0.mk (blk_drew BK266.out)
            have n9_ := Aside0.mk (blk_drew BK271.out)
            have n10_ := Aside0.mk (bw1 HB.out)
            clear HO_6
            clear HO_13
            clear HO_21
            clear HO_265000
            clear HO_265001
            clear BK259
            clear BK260
            clear BK264
            clear BK266
            clear BK271
            clear HB
            have HO_6 := n0_
            have HO_13 := n1_
            have HO_21 := n2_
            have HO_265000 := n3_
            have HO_265001 := n4_
            have BK259 := n5_
            have BK260 := n6_
            have BK264 := n7_
            have BK266 := n8_
            have BK271 := n9_
            have HB := n10_
            clear n0_ n1_ n2_ n3_ n4_ n5_ n6_ n7_ n8_ n9_ n10_
            refine start_ (n := 22) (S := fun w' => w'.cell? ⟨gb271, 0, none⟩ = some (.string ((rd_T81 t261 x23_2).f0)) ∧ w'.cell? ⟨gb271, 1, none⟩ = some (.int .i64 ((rd_T81 t261 x23_2).f1)) ∧ w'.cell? ⟨gb266, 0, none⟩ = some (.string ((rd_T81 t261 x15_1).f0)) ∧ w'.cell? ⟨gb266, 1, none⟩ = some (.int .i64 ((rd_T81 t261 x15_1).f1))) (ds := []) #[false, false, false, false, false, false, false, false, false, false, false, false, false, false, false, false, false, false, false, false, false, false] (by kernel_rfl) rfl rfl ⟨(blk_cell BK271.out 0).trans rfl, (blk_cell BK271.out 1).trans rfl, (blk_cell BK266.out 0).trans rfl, (blk_cell BK266.out 1).trans rfl⟩ (fun hHeld => ?_); refine with_tabW impl_builderOf.tab9 impl_builderOf.bits9 (fun HT_ HW_ => ?_)
            generalize w73.drew = w74 at HO_6 HO_13 HO_21 HO_265000 HO_265001 BK259 BK260 BK264 BK266 BK271 HB hHeld ⊢
            refine pu_ 0 (some 28) HT_ ?_
            refine pu_ 2 (some 30) HT_ ?_
            refine tk_ 1 (some 29) HT_ HW_ hHeld rfl (by rintro w' ⟨s0, s1, s2, s3⟩; go_simp; with_reducible rfl) ?_
            refine tk_ 3 (some 31) HT_ HW_ hHeld rfl (by rintro w' ⟨s0, s1, s2, s3⟩; go_simp; with_reducible rfl) ?_
            refine pu_ 4 (some 32) HT_ ?_
            refine pu_ 5 (some 33) HT_ ?_
            refine pure_ (i := 6) (N := some 34) (v := undef) (a' := ?_) #[true, true, true, true, true, true, true, false, false, false, false, false, false, false, false, false, false, false, false, false, false, false] rfl rfl (any_of HT_.out (by kernel_rfl)) (fun _ _ _ h => h) (Or.inr ⟨by rfl, rfl⟩) ?_ ?_
            rotate_left
            ·simp only [Act.put, List.setIfInBounds_toArray, List.set_cons_zero, List.set_cons_succ, i64_w, i32_w, u8_w_]
             rfl
            refine pure_ (i := 7) (N := some 35) (v := undef) (a' := ?_) #[true, true, true, true, true, true, true, true, false, false, false, false, false, false, false, false, false, false, false, false, false, false] rfl rfl (any_of HT_.out (by kernel_rfl)) (fun _ _ _ h => h) (Or.inr ⟨by rfl, rfl⟩) ?_ ?_
            rotate_left
            ·simp only [Act.put, List.setIfInBounds_toArray, List.set_cons_zero, List.set_cons_succ, i64_w, i32_w, u8_w_]
             rfl
            refine pure_ (i := 8) (N := some 36) (v := undef) (a' := ?_) #[true, true, true, true, true, true, true, true, true, false, false, false, false, false, false, false, false, false, false, false, false, false] rfl rfl (any_of HT_.out (by kernel_rfl)) (fun _ _ _ h => h) (Or.inr ⟨by rfl, rfl⟩) ?_ ?_
            rotate_left
            ·simp only [Act.put, List.setIfInBounds_toArray, List.set_cons_zero, List.set_cons_succ, i64_w, i32_w, u8_w_]
             rfl
            refine pure_ (i := 9) (N := some 37) (v := undef) (a' := ?_) #[true, true, true, true, true, true, true, true, true, true, false, false, false, false, false, false, false, false, false, false, false, false] rfl rfl (any_of HT_.out (by kernel_rfl)) (fun _ _ _ h => h) (Or.inr ⟨by rfl, rfl⟩) ?_ ?_
            rotate_left
            ·simp only [Act.put, List.setIfInBounds_toArray, List.set_cons_zero, List.set_cons_succ, i64_w, i32_w, u8_w_]
             rfl
            refine pure_ (i := 10) (N := some 38) (v := undef) (a' := ?_) #[true, true, true, true, true, true, true, true, true, true, true, false, false, false, false, false, false, false, false, false, false, false] rfl rfl (any_of HT_.out (by kernel_rfl)) (fun _ _ _ h => h) (Or.inr ⟨by rfl, rfl⟩) ?_ ?_
            rotate_left
            ·simp only [Act.put, List.setIfInBounds_toArray, List.set_cons_zero, List.set_cons_succ, i64_w, i32_w, u8_w_]
             rfl
            refine pure_ (i := 11) (N := some 39) (v := undef) (a' := ?_) #[true, true, true, true, true, true, true, true, true, true, true, true, false, false, false, false, false, false, false, false, false, false] rfl rfl (any_of HT_.out (by kernel_rfl)) (fun _ _ _ h => h) (Or.inr ⟨by rfl, rfl⟩) ?_ ?_
            rotate_left
            ·simp only [Act.put, List.setIfInBounds_toArray, List.set_cons_zero, List.set_cons_succ, i64_w, i32_w, u8_w_]
             rfl
            refine pure_ (i := 12) (N := some 40) (v := undef) (a' := ?_) #[true, true, true, true, true, true, true, true, true, true, true, true, true, false, false, false, false, false, false, false, false, false] rfl rfl (any_of HT_.out (by kernel_rfl)) (fun _ _ _ h => h) (Or.inr ⟨by rfl, rfl⟩) ?_ ?_
            rotate_left
            ·simp only [Act.put, List.setIfInBounds_toArray, List.set_cons_zero, List.set_cons_succ, i64_w, i32_w, u8_w_]
             rfl
            refine pure_ (i := 13) (N := some 41) (v := undef) (a' := ?_) #[true, true, true, true, true, true, true, true, true, true, true, true, true, true, false, false, false, false, false, false, false, false] rfl rfl (any_of HT_.out (by kernel_rfl)) (fun _ _ _ h => h) (Or.inr ⟨by rfl, rfl⟩) ?_ ?_
            rotate_left
            ·simp only [Act.put, List.setIfInBounds_toArray, List.set_cons_zero, List.set_cons_succ, i64_w, i32_w, u8_w_]
             rfl
            refine pure_ (i := 14) (N := some 42) (v := undef) (a' := ?_) #[true, true, true, true, true, true, true, true, true, true, true, true, true, true, true, false, false, false, false, false, false, false] rfl rfl (any_of HT_.out (by kernel_rfl)) (fun _ _ _ h => h) (Or.inr ⟨by rfl, rfl⟩) ?_ ?_
            rotate_left
            ·simp only [Act.put, List.setIfInBounds_toArray, List.set_cons_zero, List.set_cons_succ, i64_w, i32_w, u8_w_]
             rfl
            refine pure_ (i := 15) (N := some 43) (v := undef) (a' := ?_) #[true, true, true, true, true, true, true, true, true, true, true, true, true, true, true, true, false, false, false, false, false, false] rfl rfl (any_of HT_.out (by kernel_rfl)) (fun _ _ _ h => h) (Or.inr ⟨by rfl, rfl⟩) ?_ ?_
            rotate_left
            ·simp only [Act.put, List.setIfInBounds_toArray, List.set_cons_zero, List.set_cons_succ, i64_w, i32_w, u8_w_]
             rfl
            refine pure_ (i := 16) (N := some 44) (v := undef) (a' := ?_) #[true, true, true, true, true, true, true, true, true, true, true, true, true, true, true, true, true, false, false, false, false, false] rfl rfl (any_of HT_.out (by kernel_rfl)) (fun _ _ _ h => h) (Or.inr ⟨by rfl, rfl⟩) ?_ ?_
            rotate_left
            ·simp only [Act.put, List.setIfInBounds_toArray, List.set_cons_zero, List.set_cons_succ, i64_w, i32_w, u8_w_]
             rfl
            refine pure_ (i := 17) (N := some 45) (v := undef) (a' := ?_) #[true, true, true, true, true, true, true, true, true, true, true, true, true, true, true, true, true, true, false, false, false, false] rfl rfl (any_of HT_.out (by kernel_rfl)) (fun _ _ _ h => h) (Or.inr ⟨by rfl, rfl⟩) ?_ ?_
            rotate_left
            ·simp only [Act.put, List.setIfInBounds_toArray, List.set_cons_zero, List.set_cons_succ, i64_w, i32_w, u8_w_]
             rfl
            refine pure_ (i := 18) (N := some 46) (v := undef) (a' := ?_) #[true, true, true, true, true, true, true, true, true, true, true, true, true, true, true, true, true, true, true, false, false, false] rfl rfl (any_of HT_.out (by kernel_rfl)) (fun _ _ _ h => h) (Or.inr ⟨by rfl, rfl⟩) ?_ ?_
            rotate_left
            ·simp only [Act.put, List.setIfInBounds_toArray, List.set_cons_zero, List.set_cons_succ, i64_w, i32_w, u8_w_]
             rfl
            refine pure_ (i := 19) (N := some 47) (v := undef) (a' := ?_) #[true, true, true, true, true, true, true, true, true, true, true, true, true, true, true, true, true, true, true, true, false, false] rfl rfl (any_of HT_.out (by kernel_rfl)) (fun _ _ _ h => h) (Or.inr ⟨by rfl, rfl⟩) ?_ ?_
            rotate_left
            ·simp only [Act.put, List.setIfInBounds_toArray, List.set_cons_zero, List.set_cons_succ, i64_w, i32_w, u8_w_]
             rfl
            refine pure_ (i := 20) (N := some 48) (v := undef) (a' := ?_) #[true, true, true, true, true, true, true, true, true, true, true, true, true, true, true, true, true, true, true, true, true, false] rfl rfl (any_of HT_.out (by kernel_rfl)) (fun _ _ _ h => h) (Or.inr ⟨by rfl, rfl⟩) ?_ ?_
            rotate_left
            ·simp only [Act.put, List.setIfInBounds_toArray, List.set_cons_zero, List.set_cons_succ, i64_w, i32_w, u8_w_]
             rfl
            refine pu_ 21 (some 49) HT_ ?_
            refine done_ (done_of HT_.out (by kernel_rfl)) ?_
            try go_wp2
            go_roundg k2
            case measure => have := HK1.out; have := HK2.out; omega
            case rel => exact ⟨(x6_2), (wrap64 (x23_2 + 1)), (by first | rfl | (simp; done) | (simp [*]; done)), H', ⟨by have := HK1.out; have := HK2.out; omega⟩, ⟨by (with_reducible repeat (first | apply Kd.R_alloc | apply Kd.R_drewN | apply Kd.R_drew)); exact HO_6.out⟩, ⟨by (with_reducible repeat (first | apply Kd.R_alloc | apply Kd.R_drewN | apply Kd.R_drew)); exact Kd.R_mono HO_13.out (fun _ hk => hk.1)⟩, ⟨by (with_reducible repeat (first | apply Kd.R_alloc | apply Kd.R_drewN | apply Kd.R_drew)); exact Kd.R_mono HO_21.out (fun _ hk => hk.1)⟩, ⟨by (with_reducible repeat (first | apply Kd.R_alloc | apply Kd.R_drewN | apply Kd.R_drew)); exact Kd.R_mono HO_265000.out (fun _ hk => hk.1)⟩, ⟨by (with_reducible repeat (first | apply Kd.S_alloc | apply Kd.S_drewN | apply Kd.S_drew)); exact HO_265001.out⟩, ⟨by (with_reducible repeat (first | refine blk_drewN ?_ _ | refine blk_drew ?_ | refine blk_alloc ?_ _)); exact BK259.out⟩, ⟨by (with_reducible repeat (first | refine blk_drewN ?_ _ | refine blk_drew ?_ | refine blk_alloc ?_ _)); exact BK260.out⟩, ⟨by (with_reducible repeat (first | refine blk_drewN ?_ _ | refine blk_drew ?_ | refine blk_alloc ?_ _)); exact BK264.out⟩, ⟨by (with_reducible repeat (first | refine blk_drewN ?_ _ | refine blk_drew ?_ | refine blk_alloc ?_ _)); exact BK266.out⟩, ⟨by repeat (first | (with_reducible first | exact HB.out | apply bwA | apply pwN | apply bw1 | refine below_set ?_ GE259.out | refine below_set ?_ GE260.out | refine below_set ?_ GE264.out | refine below_set ?_ GE266.out | refine below_set ?_ GE271.out) | exact HB.out)⟩⟩
          ·rw [if_neg c28] at H
           exact absurd H (by simp)
         ·rw [if_neg c27] at H
          exact absurd H (by simp)
        ·rw [if_neg c26] at H
         have c26b0 : decide (x23_2 < (t261.length : Int)) = false := decide_eq_false c26
         clear c26
         by_cases c75 : x265001_1.length < 5864062014805
         ·rw [if_pos c75] at H
          have LMc75 := Aside0.mk c75
          clear c75
          obtain ⟨y279, hy279⟩ : ∃ y_ : List (List Int), y_ = (x265001_1 ++ [x6_2]) := ⟨_, rfl⟩
          replace H : (impl_builderOf.l0 k2 t261 (t261.length : Int) (wrap64 (x15_1 + 1)) l0_0 l0_1 t261 y279) = some (r1, r2) := by first | (rw [hy279]; with_reducible exact H) | (have H2_ := (Option.bind_some _ _).symm.trans H; rw [hy279]; with_reducible exact H2_) | (have H2_ := (Option.bind_some _ _).symm.trans H; with_reducible exact H2_) | with_reducible exact H | (rw [hy279]; exact H) | exact H
          have Ny279 := Aside0.mk hy279
          clear hy279
          have H' := Aside0.mk H
          clear H
          have hnb76 := NB264_259.out
          have hnc76 := NB259_264.out
          have hnb77 := NB264_260.out
          have hnc77 := NB260_264.out
          have hnb78 := NB264_266.out
          have hnc78 := NB266_264.out
          have hcz79_0 : wr.cell? ⟨gb264, 0, none⟩ = some (.slice (some ad265) t261.length co8) := (blk_cell BK264.out 0).trans rfl
          have hcz79_1 : wr.cell? ⟨gb264, 1, none⟩ = some (u265001) := (blk_cell BK264.out 1).trans rfl
          have hfz79_0 := blk_frozen BK264.out 0
          have hfz79_1 := blk_frozen BK264.out 1
          obtain ⟨Ao81, co81, eo81⟩ := Kd.R_slice HO_6.out
          subst eo81
          go_wp2_with (first | ((with_reducible refine gate_builtin (b := .append) (xs := #[.tmp 56, .tmp 58]) rfl ?_); (try (refine gate_guard (by rfl) ?_; dsimp only)); at_builtin; refine Kd.S_append (Kd.slice 3 (Kd.int .i64)) (w0 := w) w.heap.size rfl (.tmp 56) (.tmp 58) 70 75 (.slice none 0 0) 24 rfl Try.underlying70 info75 rfl (by decide) (by omega) u265001 x265001_1 x6_2 [.slice Ao81 x6_2.length co81] (fun _ => True) (fun k_ => some k_ = (.slice Ao81 x6_2.length co81 : Value).ownBlock) rfl rfl ?aP (fun k_ hk_ => ((Kd.R_mono (ok' := fun k_ => ((fun _ => True)) k_ ∧ some k_ ≠ (u265001 : Value).ownBlock) (Kd.R_apart' (HO_6.out) (Kd.S_typed HO_265001.out) (by decide)) (fun k_ hk => ⟨trivial, hk.2⟩))).1 k_ hk_.symm) ?aF ?aO ?aB ?aS ?aL ?_; (case aP => exact Kd.M_row (Kd.R_mono (Kd.R_tight rfl (Kd.R_mono (ok' := fun k_ => ((fun _ => True)) k_ ∧ some k_ ≠ (u265001 : Value).ownBlock) (Kd.R_apart' (HO_6.out) (Kd.S_typed HO_265001.out) (by decide)) (fun k_ hk => ⟨trivial, hk.2⟩))) (fun _ h_ => h_))); (case aB => exact (by repeat (first | (with_reducible first | exact HB.out | apply bwA | apply pwN | apply bw1 | refine below_set ?_ GE259.out | refine below_set ?_ GE260.out | refine below_set ?_ GE264.out | refine below_set ?_ GE266.out) | exact HB.out))); (case aF => exact (fun _ _ => trivial)); (case aO => exact (by (with_reducible repeat (first | apply Kd.S_alloc | apply Kd.S_drewN | apply Kd.S_drew)); exact Kd.S_mono HO_265001.out (fun k_ hk => ⟨trivial, fun e_ => hk e_⟩))); (case aS => exact (below_size (by repeat (first | (with_reducible first | exact HB.out | apply bwA | apply pwN | apply bw1 | refine below_set ?_ GE259.out | refine below_set ?_ GE260.out | refine below_set ?_ GE264.out | refine below_set ?_ GE266.out) | exact HB.out)))); (case aL => have := LMc75.out; omega); intro v280 w80 ho hb hg hat; rw [← Ny279.out] at ho; have n0_ := Aside0.mk (Kd.R_over' (by (with_reducible repeat (first | apply Kd.R_alloc | apply Kd.R_drewN | apply Kd.R_drew)); exact HO_13.out) (Kd.S_typed (by (with_reducible repeat (first | apply Kd.S_alloc | apply Kd.S_drewN | apply Kd.S_drew)); exact HO_265001.out)) (by decide) hg); have n1_ := Aside0.mk (Kd.R_over' (by (with_reducible repeat (first | apply Kd.R_alloc | apply Kd.R_drewN | apply Kd.R_drew)); exact HO_21.out) (Kd.S_typed (by (with_reducible repeat (first | apply Kd.S_alloc | apply Kd.S_drewN | apply Kd.S_drew)); exact HO_265001.out)) (by decide) hg); have n2_ := Aside0.mk (Kd.R_over' (by (with_reducible repeat (first | apply Kd.R_alloc | apply Kd.R_drewN | apply Kd.R_drew)); exact HO_265000.out) (Kd.S_typed (by (with_reducible repeat (first | apply Kd.S_alloc | apply Kd.S_drewN | apply Kd.S_drew)); exact HO_265001.out)) (by decide) hg); have n3_ := Aside0.mk (blk_grown (g := gb259) (by (with_reducible repeat (first | refine blk_drewN ?_ _ | refine blk_drew ?_ | refine blk_alloc ?_ _)); exact BK259.out) hg (Kd.S_ne HO_265001.out BK259.out (by decide))); have n4_ := Aside0.mk (blk_grown (g := gb260) (by (with_reducible repeat (first | refine blk_drewN ?_ _ | refine blk_drew ?_ | refine blk_alloc ?_ _)); exact BK260.out) hg (Kd.S_ne HO_265001.out BK260.out (by decide))); have n5_ := Aside0.mk (blk_grown (g := gb264) (by (with_reducible repeat (first | refine blk_drewN ?_ _ | refine blk_drew ?_ | refine blk_alloc ?_ _)); exact BK264.out) hg (Kd.S_ne HO_265001.out BK264.out (by decide))); have n6_ := Aside0.mk (blk_grown (g := gb266) (by (with_reducible repeat (first | refine blk_drewN ?_ _ | refine blk_drew ?_ | refine blk_alloc ?_ _)); exact BK266.out) hg (Kd.S_ne HO_265001.out BK266.out (by decide))); have n7_ := Aside0.mk (hb); have n8_ := Aside0.mk (ho); clear HO_13; clear HO_21; clear HO_265000; clear BK259; clear BK260; clear BK264; clear BK266; clear HB; clear HO_265001; clear HO_6; have HO_13 := n0_; have HO_21 := n1_; have HO_265000 := n2_; have BK259 := n3_; have BK260 := n4_; have BK264 := n5_; have BK266 := n6_; have HB := n7_; have HO281 := n8_; clear n0_ n1_ n2_ n3_ n4_ n5_ n6_ n7_ n8_; clear ho hb hg hat; obtain ⟨Ao82, co82, eo82⟩ := Kd.S_slice HO281.out; subst eo82; have hcz83_0 : w80.cell? ⟨gb264, 0, none⟩ = some (.slice (some ad265) t261.length co8) := (blk_cell BK264.out 0).trans rfl; have hcz83_1 : w80.cell? ⟨gb264, 1, none⟩ = some (u265001) := (blk_cell BK264.out 1).trans rfl; have hfz83_0 := blk_frozen BK264.out 0; have hfz83_1 := blk_frozen BK264.out 1))
          go_roundg k2
          case measure => have := HK1.out; have := HK2.out; omega
          case rel => exact ⟨(wrap64 (x15_1 + 1)), (y279), (.slice Ao82 y279.length co82), (by first | rfl | (simp; done) | (simp [*]; done)), H', ⟨by have := HK1.out; have := HK2.out; omega⟩, ⟨by (with_reducible repeat (first | apply Kd.R_alloc | apply Kd.R_drewN | apply Kd.R_drew)); exact Kd.R_mono (Kd.R_far (p := ⟨gb264, 1, none⟩) (Kd.R_types HO_13.out BK264.out (by decide)) (fun _ hk => hk.2) (.slice Ao82 y279.length co82)) (fun _ hk => trivial)⟩, ⟨by (with_reducible repeat (first | apply Kd.R_alloc | apply Kd.R_drewN | apply Kd.R_drew)); exact Kd.R_mono (Kd.R_far (p := ⟨gb264, 1, none⟩) (Kd.R_types HO_265000.out BK264.out (by decide)) (fun _ hk => hk.2) (.slice Ao82 y279.length co82)) (fun _ hk => trivial)⟩, ⟨by (with_reducible repeat (first | apply Kd.S_alloc | apply Kd.S_drewN | apply Kd.S_drew)); exact Kd.S_mono (Kd.S_far (p := ⟨gb264, 1, none⟩) (Kd.S_types HO281.out BK264.out (by decide)) (fun _ hk => hk.2) (.slice Ao82 y279.length co82)) (fun _ hk => trivial)⟩, ⟨by (with_reducible repeat (first | refine blk_drewN ?_ _ | refine blk_drew ?_ | refine blk_alloc ?_ _)); refine blk_far ?_ NB259_264.out _; (with_reducible repeat (first | refine blk_drewN ?_ _ | refine blk_drew ?_ | refine blk_alloc ?_ _)); exact BK259.out⟩, ⟨by (with_reducible repeat (first | refine blk_drewN ?_ _ | refine blk_drew ?_ | refine blk_alloc ?_ _)); refine blk_far ?_ NB260_264.out _; (with_reducible repeat (first | refine blk_drewN ?_ _ | refine blk_drew ?_ | refine blk_alloc ?_ _)); exact BK260.out⟩, ⟨by (with_reducible repeat (first | refine blk_drewN ?_ _ | refine blk_drew ?_ | refine blk_alloc ?_ _)); refine blk_put (cs := #[.slice (some ad265) t261.length co8, u265001]) ?_ 1 _ rfl; (with_reducible repeat (first | refine blk_drewN ?_ _ | refine blk_drew ?_ | refine blk_alloc ?_ _)); exact BK264.out⟩, ⟨by repeat (first | (with_reducible first | exact HB.out | apply bwA | apply pwN | apply bw1 | refine below_set ?_ GE259.out | refine below_set ?_ GE260.out | refine below_set ?_ GE264.out | refine below_set ?_ GE266.out) | exact HB.out)⟩⟩
         ·rw [if_neg c75] at H
          exact absurd H (by simp)
     ·rw [if_neg c15] at H
      exact absurd H (by simp)
    ·rw [if_neg c14] at H
     exact absurd H (by simp)
   ·rw [if_neg c13] at H
    have c13b0 : decide (x15_1 < (t261.length : Int)) = false := decide_eq_false c13
    clear c13
    simp only [Option.some.injEq, Prod.mk.injEq] at H
    obtain ⟨rfl, rfl⟩ := H
    have hnb84 := NB264_259.out
    have hnc84 := NB259_264.out
    have hnb85 := NB264_260.out
    have hnc85 := NB260_264.out
    have hcz86_0 : wr.cell? ⟨gb264, 0, none⟩ = some (.slice Ao8 t261.length co8) := (blk_cell BK264.out 0).trans rfl
    have hcz86_1 : wr.cell? ⟨gb264, 1, none⟩ = some (u265001) := (blk_cell BK264.out 1).trans rfl
    have hfz86_0 := blk_frozen BK264.out 0
    have hfz86_1 := blk_frozen BK264.out 1
    have hnb87 := NB260_259.out
    have hnc87 := NB259_260.out
    have hcz88_0 : wr.cell? ⟨gb260, 0, none⟩ = some (.slice none 0 0) := (blk_cell BK260.out 0).trans rfl
    have hcz88_1 : wr.cell? ⟨gb260, 1, none⟩ = some (.slice none 0 0) := (blk_cell BK260.out 1).trans rfl
    have hfz88_0 := blk_frozen BK260.out 0
    have hfz88_1 := blk_frozen BK260.out 1
    obtain ⟨Ao89, co89, eo89⟩ := Kd.S_slice HO_265001.out
    subst eo89
    go_wp2
    refine bodyPost_ret (results_cell_row rfl _ _ gb260 72 #[.slice Ao8 t261.length co8, .slice Ao89 x265001_1.length co89] (0, 0) _ rfl (by (with_reducible repeat (first | refine blk_drewN ?_ _ | refine blk_drew ?_ | refine blk_alloc ?_ _)); refine blk_put (cs := #[.slice Ao8 t261.length co8, .slice none 0 0]) ?_ 1 _ rfl; refine blk_put (cs := #[.slice none 0 0, .slice none 0 0]) ?_ 0 _ rfl; (with_reducible repeat (first | refine blk_drewN ?_ _ | refine blk_drew ?_ | refine blk_alloc ?_ _)); exact BK260.out) Try.underlying72 rfl (by kernel_rfl)) rfl ?_
    exact ⟨_, _, by first | rfl | (simp [errW_none, errW_some] <;> rfl) | (simp [*, errW_none, errW_some] <;> rfl), by (with_reducible repeat (first | apply Kd.R_alloc | apply Kd.R_drewN | apply Kd.R_drew)); exact Kd.R_mono (Kd.R_far (p := ⟨gb260, 1, none⟩) (Kd.R_far (p := ⟨gb260, 0, none⟩) (Kd.R_types HO_265000.out BK260.out (by decide)) (fun _ hk => hk.2) (.slice Ao8 t261.length co8)) (fun _ hk => hk.2) (.slice Ao89 x265001_1.length co89)) (fun _ hk => trivial), by (with_reducible repeat (first | apply Kd.S_alloc | apply Kd.S_drewN | apply Kd.S_drew)); exact Kd.S_mono (Kd.S_far (p := ⟨gb260, 1, none⟩) (Kd.S_far (p := ⟨gb260, 0, none⟩) (Kd.S_types HO_265001.out BK260.out (by decide)) (fun _ hk => hk.2) (.slice Ao8 t261.length co8)) (fun _ hk => hk.2) (.slice Ao89 x265001_1.length co89)) (fun _ hk => trivial), by repeat (first | (with_reducible first | exact HB.out | apply bwA | apply pwN | apply bw1 | refine below_set ?_ GE259.out | refine below_set ?_ GE260.out | refine below_set ?_ GE264.out) | exact HB.out)⟩
end Go.Proofs.Ytlepbhlbooajmaa.Q
namespace Go.Proofs.Ytlepbhlbooajmaa.Ext
end Go.Proofs.Ytlepbhlbooajmaa.Ext
namespace Go.Proofs.Ytlepbhlbooajmaa.Q
open Go.Proofs.Ytlepbhlbooajmaa.Ext
open Go.RowKit Go.Proofs.YtlepbhlbooajmaaW.PrintWords Go.Proofs.YtlepbhlbooajmaaW.PrintLast Go.Proofs.YtlepbhlbooajmaaW.PrintMore
attribute [local go_sem] max2_int min2_int max_two min_two max_three min_three max_four min_four
set_option linter.unusedVariables false
set_option linter.unusedSimpArgs false
def impl_builder_all.l0 : Nat → List Int → Int → Int → Option (List Int)
 | 0, _, _, _ => none
 | k + 1, x3, x8, x9 => if x9 < x8 then (if x3.length < 17592186044416 then (impl_builder_all.l0 k (x3 ++ [x9]) x8 (wrap64 (x9 + 1))) else (none)) else (some x3)
def impl_builder_all.f (k : Nat) (l0_0 : List (S81)) (l0_1 : List (List Int)) : Option (List Int) := impl_builder_all.l0 k (([] : List Int)) (l0_0.length : Int) 0
set_option maxHeartbeats 8000000 in
set_option maxRecDepth 100000 in
theorem impl_builder_all.calls (k : Nat) (A0_0 : Option Addr) (c0_0 : Nat) (l0_0 : List (S81)) (A0_1 : Option Addr) (c0_1 : Nat) (l0_1 : List (List Int)) (r : List Int) (w : World) (hr0_0 : Kd.C k81 w A0_0 l0_0.length l0_0) (hc0_0 : l0_0.length ≤ c0_0) (hr0_1 : Kd.C (Kd.slice 3 (Kd.int .i64)) w A0_1 l0_1.length l0_1) (hc0_1 : l0_1.length ≤ c0_1) (h : impl_builder_all.f k l0_0 l0_1 = some r) :
  Calls Try.prog 35 #[.agg #[.slice A0_0 l0_0.length c0_0, .slice A0_1 l0_1.length c0_1]] w fun e w' => ∃ v0_ : Value, e = .returned (v0_) ∧ Kd.R (Kd.int .i64) 3 w' w.heap.size (fun _ => True) v0_ r ∧ Below w.heap.size w w' := by
 have hu72 := Try.underlying72
 have HR0_0 := Aside0.mk hr0_0
 have HC0_0 := Aside0.mk hc0_0
 clear hr0_0 hc0_0
 have HR0_1 := Aside0.mk hr0_1
 have HC0_1 := Aside0.mk hc0_1
 clear hr0_1 hc0_1
 have HB := Aside0.mk (Below.refl w.heap.size w)
 have H : (impl_builder_all.l0 k (([] : List Int)) (l0_0.length : Int) 0) = some r := h
 clear h
 obtain ⟨y283, hy283⟩ : ∃ y_ : List Int, y_ = (([] : List Int)) := ⟨_, rfl⟩
 replace H : (impl_builder_all.l0 k y283 (l0_0.length : Int) 0) = some r := by first | (rw [hy283]; with_reducible exact H) | (have H2_ := (Option.bind_some _ _).symm.trans H; rw [hy283]; with_reducible exact H2_) | (have H2_ := (Option.bind_some _ _).symm.trans H; with_reducible exact H2_) | with_reducible exact H | (rw [hy283]; exact H) | exact H
 have Ny283 := Aside0.mk hy283
 clear hy283
 have H' := Aside0.mk H
 clear H
 go_enter Try.func35, Try.ntmps35
 go_wp2_with (first | ((with_reducible refine gate_dst (N := 1) rfl ?_); refine box_event ?hg (N := 1) ?hd (cs := #[.slice A0_0 l0_0.length c0_0, .slice A0_1 l0_1.length c0_1]) (t := 72) ?hr ?_; (case hd => rfl); (case hg => rfl); (case hr => first | (go_simp; done) | (go_simp; rfl)); intro gb282 hg w2 hbox hb; have n0_ := Aside0.mk (below_step (by repeat (first | (with_reducible first | exact HB.out | apply bwA | apply pwN | apply bw1) | exact HB.out)) hb); have n1_ := Aside0.mk (hbox); have n2_ := Aside0.mk ((by rw [hg]; exact (below_size (by repeat (first | (with_reducible first | exact HB.out | apply bwA | apply pwN | apply bw1) | exact HB.out))) : w.heap.size ≤ gb282)); have n3_ := Aside0.mk (n2_.out); clear HB; have HB := n0_; have BK282 := n1_; have GW282 := n2_; have GE282 := n3_; clear n0_ n1_ n2_ n3_; clear hb hbox hg) | ((with_reducible refine gate_dst (N := 5) rfl ?_); refine Kd.R_lit (Kd.int .i64) _ 3 ?hg (N := 5) ?hd (xs := ([] : List Int)) (inner := []) (ok := fun _ => True) (okp := fun _ => True) ?hr ?hp (fun _ hk => hk) trivial (Below.refl _ _) (Nat.le_refl _) (by simp) ?_; (case hd => rfl); (case hg => rfl); (case hr => first | (go_simp; done) | (go_simp; rfl)); (case hp => exact (Reps.none _ _)); intro v284 w3 ho4 hb hg_ hnew_; clear hg_ hnew_; (first | rw [← Ny283.out] at ho4 | (simp only [Int.reduceToNat] at ho4; rw [← Ny283.out] at ho4)); have n0_ := Aside0.mk (Kd.R_lower ho4 (below_size (by repeat (first | (with_reducible first | exact HB.out | apply bwA | apply pwN | apply bw1 | refine below_set ?_ GE282.out) | exact HB.out)))); have n1_ := Aside0.mk (blk_below (g := gb282) (by (with_reducible repeat (first | refine blk_drewN ?_ _ | refine blk_drew ?_ | refine blk_alloc ?_ _)); exact BK282.out) hb); have n2_ := Aside0.mk (below_step (by repeat (first | (with_reducible first | exact HB.out | apply bwA | apply pwN | apply bw1 | refine below_set ?_ GE282.out) | exact HB.out)) hb); clear BK282; clear HB; have HO285 := n0_; have BK282 := n1_; have HB := n2_; clear n0_ n1_ n2_; clear hb ho4; have hcz5_0 : w3.cell? ⟨gb282, 0, none⟩ = some (.slice A0_0 l0_0.length c0_0) := (blk_cell BK282.out 0).trans rfl; have hcz5_1 : w3.cell? ⟨gb282, 1, none⟩ = some (.slice A0_1 l0_1.length c0_1) := (blk_cell BK282.out 1).trans rfl; have hfz5_0 := blk_frozen BK282.out 0; have hfz5_1 := blk_frozen BK282.out 1))
 go_loopg [3, 9] k (fun kq v3 v9 w' => ∃ (x3_1 : List Int) (x9_1 : Int), v9 = .int .i64 x9_1 ∧ Aside0 (impl_builder_all.l0 kq x3_1 (l0_0.length : Int) x9_1 = some r) ∧ Aside0 (kq ≤ k) ∧ Aside0 (Kd.R (Kd.int .i64) 3 w' w.heap.size (fun _ => True) v3 x3_1) ∧ Aside0 (w'.heap[gb282]? = some (.cells #[(.slice A0_0 l0_0.length c0_0), (.slice A0_1 l0_1.length c0_1)] 72 (0, 0))) ∧ Aside0 (Below w.heap.size w w'))
 case atStart => exact ⟨(y283), (0), (by first | rfl | (simp; done) | (simp [*]; done)), H', ⟨Nat.le_refl _⟩, ⟨by (with_reducible repeat (first | apply Kd.R_alloc | apply Kd.R_drewN | apply Kd.R_drew)); exact HO285.out⟩, ⟨by (with_reducible repeat (first | refine blk_drewN ?_ _ | refine blk_drew ?_ | refine blk_alloc ?_ _)); exact BK282.out⟩, ⟨by repeat (first | (with_reducible first | exact HB.out | apply bwA | apply pwN | apply bw1 | refine below_set ?_ GE282.out) | exact HB.out)⟩⟩
 case round =>
  clear H'
  try clear p2
  try clear c3
  try clear hcz5_0
  try clear hcz5_1
  try clear hfz5_0
  try clear hfz5_1
  obtain ⟨x3_1, x9_1, rfl, HA, HK1, HO_3, BK282, HB⟩ := hrel
  cases gk with
  | zero => exact absurd HA.out (by simp [impl_builder_all.l0])
  | succ k1 =>
   have H := HA.out
   clear HA
   simp only [impl_builder_all.l0] at H
   by_cases c6 : x9_1 < (l0_0.length : Int)
   ·rw [if_pos c6] at H
    have c6b0 : decide (x9_1 < (l0_0.length : Int)) = true := decide_eq_true c6
    clear c6
    by_cases c7 : x3_1.length < 17592186044416
    ·rw [if_pos c7] at H
     have LMc7 := Aside0.mk c7
     clear c7
     obtain ⟨y286, hy286⟩ : ∃ y_ : List Int, y_ = (x3_1 ++ [x9_1]) := ⟨_, rfl⟩
     replace H : (impl_builder_all.l0 k1 y286 (l0_0.length : Int) (wrap64 (x9_1 + 1))) = some r := by first | (rw [hy286]; with_reducible exact H) | (have H2_ := (Option.bind_some _ _).symm.trans H; rw [hy286]; with_reducible exact H2_) | (have H2_ := (Option.bind_some _ _).symm.trans H; with_reducible exact H2_) | with_reducible exact H | (rw [hy286]; exact H) | exact H
     have Ny286 := Aside0.mk hy286
     clear hy286
     have H' := Aside0.mk H
     clear H
     go_wp2_with (first | ((with_reducible refine gate_builtin (b := .append) (xs := #[.tmp 12, .tmp 14]) rfl ?_); at_builtin; refine Kd.R_append (Kd.int .i64) (w0 := w) w.heap.size rfl (.tmp 12) (.tmp 14) 75 3 (.int .i64 0) 8 rfl Try.underlying75 info3 rfl (by decide) (by omega) u3 x3_1 x9_1 [.int .i64 x9_1] (fun _ => True) (fun _ => False) rfl rfl ?aP (fun _ hk => hk.elim) ?aF ?aO ?aB ?aS ?aL ?_; (case aP => exact rfl); (case aB => exact (by repeat (first | (with_reducible first | exact HB.out | apply bwA | apply pwN | apply bw1 | refine below_set ?_ GE282.out) | exact HB.out))); (case aF => exact (fun _ _ => trivial)); (case aO => exact (by (with_reducible repeat (first | apply Kd.R_alloc | apply Kd.R_drewN | apply Kd.R_drew)); exact HO_3.out)); (case aS => exact (below_size (by repeat (first | (with_reducible first | exact HB.out | apply bwA | apply pwN | apply bw1 | refine below_set ?_ GE282.out) | exact HB.out)))); (case aL => have := LMc7.out; omega); intro v287 w8 ho hb hg hat; rw [← Ny286.out] at ho; have n0_ := Aside0.mk (blk_grown (g := gb282) (by (with_reducible repeat (first | refine blk_drewN ?_ _ | refine blk_drew ?_ | refine blk_alloc ?_ _)); exact BK282.out) hg (Kd.R_ne HO_3.out BK282.out (by decide))); have n1_ := Aside0.mk (hb); have n2_ := Aside0.mk (ho); clear BK282; clear HB; clear HO_3; have BK282 := n0_; have HB := n1_; have HO288 := n2_; clear n0_ n1_ n2_; clear ho hb hg hat))
     go_roundg k1
     case measure => have := HK1.out; omega
     case rel => exact ⟨(y286), (wrap64 (x9_1 + 1)), (by first | rfl | (simp; done) | (simp [*]; done)), H', ⟨by have := HK1.out; omega⟩, ⟨by (with_reducible repeat (first | apply Kd.R_alloc | apply Kd.R_drewN | apply Kd.R_drew)); exact HO288.out⟩, ⟨by (with_reducible repeat (first | refine blk_drewN ?_ _ | refine blk_drew ?_ | refine blk_alloc ?_ _)); exact BK282.out⟩, ⟨by repeat (first | (with_reducible first | exact HB.out | apply bwA | apply pwN | apply bw1 | refine below_set ?_ GE282.out) | exact HB.out)⟩⟩
    ·rw [if_neg c7] at H
     exact absurd H (by simp)
   ·rw [if_neg c6] at H
    have c6b0 : decide (x9_1 < (l0_0.length : Int)) = false := decide_eq_false c6
    clear c6
    obtain rfl := Option.some.inj H
    go_wp2
    go_ret
    exact ⟨_, by first | rfl | (simp [errW_none, errW_some] <;> rfl) | (simp [*, errW_none, errW_some] <;> rfl), by (with_reducible repeat (first | apply Kd.R_alloc | apply Kd.R_drewN | apply Kd.R_drew)); exact HO_3.out, by repeat (first | (with_reducible first | exact HB.out | apply bwA | apply pwN | apply bw1 | refine below_set ?_ GE282.out) | exact HB.out)⟩
end Go.Proofs.Ytlepbhlbooajmaa.Q
namespace Go.Proofs.Ytlepbhlbooajmaa.Ext
end Go.Proofs.Ytlepbhlbooajmaa.Ext
namespace Go.Proofs.Ytlepbhlbooajmaa.Q
open Go.Proofs.Ytlepbhlbooajmaa.Ext
open Go.RowKit Go.Proofs.YtlepbhlbooajmaaW.PrintWords Go.Proofs.YtlepbhlbooajmaaW.PrintLast Go.Proofs.YtlepbhlbooajmaaW.PrintMore
attribute [local go_sem] max2_int min2_int max_two min_two max_three min_three max_four min_four
set_option linter.unusedVariables false
set_option linter.unusedSimpArgs false
end Go.Proofs.Ytlepbhlbooajmaa.Q
namespace Go.Proofs.Ytlepbhlbooajmaa.Pure
open Go.RowKit Go.Proofs.Ytlepbhlbooajmaa.Ext Go.Proofs.Ytlepbhlbooajmaa.Q Go.Proofs.YtlepbhlbooajmaaW.PrintWords Go.Proofs.YtlepbhlbooajmaaW.PrintLast Go.Proofs.YtlepbhlbooajmaaW.PrintMore
set_option linter.unusedVariables false
set_option linter.unusedSimpArgs false
def ptAt (l0 : List Sg) (l1 : List P2) (p : Nat) : Pt := (partsL l0 l1).getD p z81
def sysOf (l0 : List Sg) (l1 : List P2) : Sys where
 m := l0.length + l1.length
 T := fun p => (ptAt l0 l1 p).f0
 V := fun p => (ptAt l0 l1 p).f1
 nx := fun last p => decide (last = l0.length + l1.length) || (decide ((ptAt l0 l1 p).f1 ≤ (ptAt l0 l1 last).f1) && (decide ((ptAt l0 l1 last).f0.size = 2) || !pairB l1 (bt (ptAt l0 l1 last).f0 0) (bt (ptAt l0 l1 p).f0 0)))
theorem parts_len (l0 : List Sg) (l1 : List P2) : (partsL l0 l1).length = l0.length + l1.length := by unfold partsL; simp
theorem pt_sign (l0 : List Sg) (l1 : List P2) (p : Nat) (h : p < l0.length) : ptAt l0 l1 p = sgPart (sgAt l0 p) := by
 unfold ptAt partsL
 rw [get_left _ _ _ _ (by simpa using h), List.getD_eq_getElem?_getD, List.getElem?_map, List.getElem?_eq_getElem h]
 unfold sgAt
 rw [List.getD_eq_getElem?_getD, List.getElem?_eq_getElem h]
 rfl
theorem pt_minus (l0 : List Sg) (l1 : List P2) (p : Nat) (h : p < l1.length) : ptAt l0 l1 (l0.length + p) = mnPart l0 (p2At l1 p) := by
 unfold ptAt partsL
 rw [List.getD_eq_getElem?_getD, List.getElem?_append_right (by simp), List.length_map, Nat.add_sub_cancel_left, List.getElem?_map, List.getElem?_eq_getElem h]
 unfold p2At
 rw [List.getD_eq_getElem?_getD, List.getElem?_eq_getElem h]
 rfl
structure Val (l0 : List Sg) (l1 : List P2) : Prop where
 n0 : 1 ≤ l0.length
 n1 : l0.length ≤ 8
 n2 : l1.length ≤ 8
 sg : ∀ s ∈ l0, 1 ≤ s.f1 ∧ s.f1 ≤ 5000
 mn : ∀ i, i < l1.length → 1 ≤ valS l0 (p2At l1 i).f1 - valS l0 (p2At l1 i).f0
 rng : ∀ x, 0 ≤ valS l0 x ∧ valS l0 x ≤ 5000
theorem valS_rng2 {l0 : List Sg} (h : ∀ s ∈ l0, 1 ≤ s.f1 ∧ s.f1 ≤ 5000) (x : Int) : 0 ≤ valS l0 x ∧ valS l0 x ≤ 5000 := by
 induction l0 with
 | nil => unfold valS; omega
 | cons s t ih =>
  unfold valS
  split
  ·have := h s (by simp); omega
  ·exact ih (fun s hs => h s (by simp [hs]))
theorem val_of {l0 : List Sg} {l1 : List P2} (h : sysB l0 l1 = true) : Val l0 l1 := by
 unfold sysB at h
 rw [Bool.and_eq_true, Bool.and_eq_true] at h
 obtain ⟨⟨ht, hs⟩, hm⟩ := h
 unfold topB at ht
 simp only [Bool.and_eq_true, decide_eq_true_eq] at ht
 have hsg : ∀ s ∈ l0, 1 ≤ s.f1 ∧ s.f1 ≤ 5000 := by
  intro s hs'
  obtain ⟨i, hi, rfl⟩ := List.mem_iff_getElem.1 hs'
  have := List.all_eq_true.1 hs i (List.mem_range.2 hi)
  unfold signB rngB at this
  simp only [Bool.and_eq_true, decide_eq_true_eq] at this
  have e : sgAt l0 i = l0[i] := by unfold sgAt; rw [List.getD_eq_getElem?_getD, List.getElem?_eq_getElem hi]; rfl
  rw [e] at this
  exact this.1.1.2
 refine ⟨ht.1.1.1, ht.1.1.2, ht.1.2, hsg, fun i hi => ?_, valS_rng2 hsg⟩
 have := List.all_eq_true.1 hm i (List.mem_range.2 hi)
 unfold minB mvB at this
 rw [Bool.and_eq_true] at this
 have h1 := this.1
 simp only [Bool.not_eq_true', Bool.or_eq_false_iff, decide_eq_false_iff_not] at h1
 omega
theorem sysOf_ok {l0 : List Sg} {l1 : List P2} (h : Val l0 l1) : (sysOf l0 l1).ok := by
 have key : ∀ p, p < l0.length + l1.length → (1 ≤ (ptAt l0 l1 p).f1 ∧ (ptAt l0 l1 p).f1 ≤ 32767) ∧ 1 ≤ ((ptAt l0 l1 p).f0.size : Int) ∧ ((ptAt l0 l1 p).f0.size : Int) ≤ 2 := by
  intro p hp
  by_cases hlt : p < l0.length
  ·rw [pt_sign l0 l1 p hlt]
   have := h.sg _ (sgAt_mem hlt)
   have e : (sgPart (sgAt l0 p)).f0.size = 1 := rfl
   have e2 : (sgPart (sgAt l0 p)).f1 = (sgAt l0 p).f1 := rfl
   rw [e, e2]
   omega
  ·obtain ⟨q, rfl⟩ : ∃ q, p = l0.length + q := ⟨p - l0.length, by omega⟩
   rw [pt_minus l0 l1 q (by omega)]
   have := h.mn q (by omega)
   have r1 := h.rng (p2At l1 q).f1
   have r0 := h.rng (p2At l1 q).f0
   have e : (mnPart l0 (p2At l1 q)).f0.size = 2 := rfl
   have e2 : (mnPart l0 (p2At l1 q)).f1 = valS l0 (p2At l1 q).f1 - valS l0 (p2At l1 q).f0 := rfl
   rw [e, e2]
   omega
 have h0 := h.n0
 have h1 := h.n1
 have h2 := h.n2
 refine ⟨show 1 ≤ l0.length + l1.length by omega, show l0.length + l1.length ≤ 16 by omega, fun p hp => (key p hp).1.1, fun p hp => (key p hp).1.2, fun p hp => (key p hp).2.1, fun p hp => (key p hp).2.2, fun p => ?_⟩
 show (decide (l0.length + l1.length = l0.length + l1.length) || _) = true
 rw [decide_eq_true rfl]; rfl
def pcOf (p : Pt) : Pc := ⟨p.f0, p.f1⟩
def piecesL (l0 : List Sg) (l1 : List P2) : List Pc := (partsL l0 l1).map pcOf
theorem pieces_l1 {l0 : List Sg} {l1 : List P2} (hw : wfSys l0 l1) (h : Val l0 l1) :
  ∀ (d i k : Nat), i + d = l1.length → d + 20 < k → spec_l03Pieces.l1 k (l0.map (pcOf ∘ sgPart) ++ (l1.take i).map (pcOf ∘ mnPart l0)) i l0 l1 = some (piecesL l0 l1) := by
 have h1 := h.n1
 have h2 := h.n2
 intro d
 induction d with
 | zero =>
  intro i k hi hK
  obtain ⟨k, rfl⟩ : ∃ k', k = k' + 1 := ⟨k - 1, by omega⟩
  unfold spec_l03Pieces.l1
  rw [if_neg (by omega), List.take_of_length_le (by omega)]
  unfold piecesL partsL
  rw [List.map_append, List.map_map, List.map_map]
 | succ d ih =>
  intro i k hi hK
  obtain ⟨k, rfl⟩ : ∃ k', k = k' + 1 := ⟨k - 1, by omega⟩
  unfold spec_l03Pieces.l1
  rw [if_pos (by omega), if_pos (by omega), l03Value_eq l1 hw.1 (by omega) _ (by omega), Option.bind_some, l03Value_eq l1 hw.1 (by omega) _ (by omega), Option.bind_some, if_pos (by simp; omega), p2At_rd, wsucc i (by omega)]
  have r1 := h.rng (p2At l1 i).f1
  have r0 := h.rng (p2At l1 i).f0
  rw [show wrap64 (valS l0 (p2At l1 i).f1 - valS l0 (p2At l1 i).f0) = valS l0 (p2At l1 i).f1 - valS l0 (p2At l1 i).f0 from by unfold wrap64; omega]
  have := ih (i + 1) k (by omega) (by omega)
  rw [take_map_succ (pcOf ∘ mnPart l0) l1 z104 i (by omega), ← List.append_assoc] at this
  exact this
theorem pieces_l0 {l0 : List Sg} {l1 : List P2} (hw : wfSys l0 l1) (h : Val l0 l1) :
  ∀ (d i k : Nat), i + d = l0.length → d + 40 < k → spec_l03Pieces.l0 k ((l0.take i).map (pcOf ∘ sgPart)) i l0 l1 = some (piecesL l0 l1) := by
 have h1 := h.n1
 have h2 := h.n2
 intro d
 induction d with
 | zero =>
  intro i k hi hK
  obtain ⟨k, rfl⟩ : ∃ k', k = k' + 1 := ⟨k - 1, by omega⟩
  unfold spec_l03Pieces.l0
  rw [if_neg (by omega), List.take_of_length_le (by omega)]
  have := pieces_l1 hw h l1.length 0 k (by omega) (by omega)
  rw [List.take_zero, List.map_nil, List.append_nil] at this
  exact this
 | succ d ih =>
  intro i k hi hK
  obtain ⟨k, rfl⟩ : ∃ k', k = k' + 1 := ⟨k - 1, by omega⟩
  unfold spec_l03Pieces.l0
  rw [if_pos (by omega), if_pos (by omega), if_pos (by simp; omega), sgAt_rd, wsucc i (by omega)]
  have := h.sg _ (sgAt_mem (show i < l0.length by omega))
  rw [show wrap64 (sgAt l0 i).f1 = (sgAt l0 i).f1 from by unfold wrap64; omega]
  have := ih (i + 1) k (by omega) (by omega)
  rw [take_map_succ (pcOf ∘ sgPart) l0 z102 i (by omega)] at this
  exact this
theorem pieces_eq {l0 : List Sg} {l1 : List P2} (hw : wfSys l0 l1) (h : Val l0 l1) {k : Nat} (hk : 60 < k) : spec_l03Pieces.f k l0 l1 = some (piecesL l0 l1) := by
 unfold spec_l03Pieces.f
 have := h.n1
 exact pieces_l0 hw h l0.length 0 k (by omega) (by omega)
theorem rd_pieces (l0 : List Sg) (l1 : List P2) (p : Nat) (h : p < l0.length + l1.length) : rd_T108 (piecesL l0 l1) (p : Int) = pcOf (ptAt l0 l1 p) := by
 unfold rd_T108 piecesL ptAt
 rw [Int.toNat_natCast, List.getD_eq_getElem?_getD, List.getElem?_map, List.getD_eq_getElem?_getD, List.getElem?_eq_getElem (by rw [parts_len]; exact h)]
 rfl
theorem rd_parts (l0 : List Sg) (l1 : List P2) (p : Nat) : rd_T81 (partsL l0 l1) (p : Int) = ptAt l0 l1 p := by
 unfold rd_T81 ptAt
 rw [Int.toNat_natCast]
theorem pieces_len (l0 : List Sg) (l1 : List P2) : (piecesL l0 l1).length = l0.length + l1.length := by unfold piecesL; rw [List.length_map, parts_len]
def nextL (s : Sys) : List (List Bool) := (List.range (s.m + 1)).map fun last => (List.range s.m).map (s.nx last)
theorem range_map_take {α : Type} (f : Nat → α) (n i : Nat) (h : i < n) : (List.range (i + 1)).map f = (List.range i).map f ++ [f i] := by rw [List.range_succ, List.map_append]; rfl
theorem next_l1 {l0 : List Sg} {l1 : List P2} (h : Val l0 l1) (x5 : List (List Bool)) (last : Nat) (hl : last ≤ l0.length + l1.length) (h5 : x5.length ≤ 100) (R : List (List Bool)) (K : Nat)
  (h0 : ∀ k', K ≤ k' → spec_l03Next.l0 k' (piecesL l0 l1) (x5 ++ [(List.range (l0.length + l1.length)).map ((sysOf l0 l1).nx last)]) ((last + 1 : Nat) : Int) l0 l1 = some R) :
  ∀ (d i k : Nat), i + d = l0.length + l1.length → K + d < k → spec_l03Next.l1 k (piecesL l0 l1) x5 last ((List.range i).map ((sysOf l0 l1).nx last)) i l0 l1 = some R := by
 have n1 := h.n1
 have n2 := h.n2
 have hlen := pieces_len l0 l1
 have hok := sysOf_ok h
 intro d
 induction d with
 | zero =>
  intro i k hi hK
  obtain ⟨k, rfl⟩ : ∃ k', k = k' + 1 := ⟨k - 1, by omega⟩
  obtain rfl : i = l0.length + l1.length := by omega
  unfold spec_l03Next.l1
  rw [if_neg (by omega), if_pos (by omega), wsucc last (by omega)]
  exact h0 k (by omega)
 | succ d ih =>
  intro i k hi hK
  obtain ⟨k, rfl⟩ : ∃ k', k = k' + 1 := ⟨k - 1, by omega⟩
  have hstep := ih (i + 1) k (by omega) (by omega)
  rw [range_map_take _ (l0.length + l1.length) i (by omega)] at hstep
  have hll : ((List.range i).map ((sysOf l0 l1).nx last)).length = i := by simp
  have hLi := hok.l0 i (show i < l0.length + l1.length by omega)
  have hLi' : 1 ≤ ((ptAt l0 l1 i).f0.size : Int) := hLi
  unfold spec_l03Next.l1
  rw [if_pos (by omega)]
  by_cases he : last = l0.length + l1.length
  ·have hnx : (sysOf l0 l1).nx last i = true := by show (decide (last = l0.length + l1.length) || _) = true; rw [decide_eq_true he]; rfl
   rw [hnx] at hstep
   rw [if_pos (by omega), if_pos (by omega), wsucc i (by omega), show ((last : Int) == ((piecesL l0 l1).length : Int)) = true from by simp; omega]
   exact hstep
  ·have hnx : (sysOf l0 l1).nx last i = (decide ((ptAt l0 l1 i).f1 ≤ (ptAt l0 l1 last).f1) && (decide ((ptAt l0 l1 last).f0.size = 2) || !pairB l1 (bt (ptAt l0 l1 last).f0 0) (bt (ptAt l0 l1 i).f0 0))) := by show (decide (last = l0.length + l1.length) || _) = _; rw [decide_eq_false he]; rfl
   rw [hnx] at hstep
   have hLl : 1 ≤ ((ptAt l0 l1 last).f0.size : Int) := hok.l0 last (show last < l0.length + l1.length by omega)
   rw [if_neg (by omega), if_pos (by omega), if_pos (by omega), if_pos (by omega), rd_pieces l0 l1 i (by omega), rd_pieces l0 l1 last (by omega), wsucc i (by omega)]
   show (if (ptAt l0 l1 i).f1 ≤ (ptAt l0 l1 last).f1 then (if ((ptAt l0 l1 last).f0.size : Int) = 2 then _ else (if 0 < ((ptAt l0 l1 last).f0.size : Int) then (if 0 < ((ptAt l0 l1 i).f0.size : Int) then _ else _) else _)) else _) = _
   by_cases hv : (ptAt l0 l1 i).f1 ≤ (ptAt l0 l1 last).f1
   ·rw [if_pos hv]
    rw [decide_eq_true hv, Bool.true_and] at hstep
    by_cases hs : ((ptAt l0 l1 last).f0.size : Int) = 2
    ·rw [decide_eq_true (show (ptAt l0 l1 last).f0.size = 2 by omega), Bool.true_or] at hstep
     rw [if_pos hs, if_pos (by omega)]
     exact hstep
    ·rw [decide_eq_false (show ¬ (ptAt l0 l1 last).f0.size = 2 by omega), Bool.false_or] at hstep
     rw [if_neg hs, if_pos (by omega), if_pos (by omega)]
     unfold spec_l03Pair.f
     rw [Option.bind_some, if_pos (by omega)]
     exact hstep
   ·rw [decide_eq_false hv, Bool.false_and] at hstep
    rw [if_neg hv, if_pos (by omega)]
    exact hstep
theorem next_l0 {l0 : List Sg} {l1 : List P2} (h : Val l0 l1) :
  ∀ (d j k : Nat), j + d = l0.length + l1.length + 1 → d * 20 < k → spec_l03Next.l0 k (piecesL l0 l1) ((List.range j).map fun last => (List.range (sysOf l0 l1).m).map ((sysOf l0 l1).nx last)) j l0 l1 = some (nextL (sysOf l0 l1)) := by
 have n1 := h.n1
 have n2 := h.n2
 have hlen := pieces_len l0 l1
 intro d
 induction d with
 | zero =>
  intro j k hj hK
  obtain ⟨k, rfl⟩ : ∃ k', k = k' + 1 := ⟨k - 1, by omega⟩
  obtain rfl : j = l0.length + l1.length + 1 := by omega
  unfold spec_l03Next.l0
  rw [if_neg (by omega)]
  rfl
 | succ d ih =>
  intro j k hj hK
  obtain ⟨k, rfl⟩ : ∃ k', k = k' + 1 := ⟨k - 1, by omega⟩
  unfold spec_l03Next.l0
  rw [if_pos (by omega)]
  refine next_l1 h _ j (by omega) (by simp; omega) _ (d * 20 + 1) (fun k' hk' => ?_) (l0.length + l1.length) 0 k (by omega) (by omega)
  have := ih (j + 1) k' (by omega) (by omega)
  rw [range_map_take _ (l0.length + l1.length + 1) j (by omega)] at this
  exact this
theorem next_eq {l0 : List Sg} {l1 : List P2} (h : Val l0 l1) {k : Nat} (hk : 400 < k) : spec_l03Next.f k l0 l1 (piecesL l0 l1) = some (nextL (sysOf l0 l1)) := by
 unfold spec_l03Next.f
 have n1 := h.n1
 have n2 := h.n2
 exact next_l0 h (l0.length + l1.length + 1) 0 k (by omega) (by omega)
theorem ref_of {l0 : List Sg} {l1 : List P2} (h : Val l0 l1) : Ref (sysOf l0 l1) (piecesL l0 l1) (nextL (sysOf l0 l1)) := by
 have hrow : ∀ k : Nat, k ≤ (sysOf l0 l1).m → (nextL (sysOf l0 l1)).getD k [] = (List.range (sysOf l0 l1).m).map ((sysOf l0 l1).nx k) := by
  intro k hk
  unfold nextL
  rw [List.getD_eq_getElem?_getD, List.getElem?_map, List.getElem?_range (by omega)]
  rfl
 refine ⟨pieces_len l0 l1, fun p hp => by rw [rd_pieces l0 l1 p hp]; rfl, fun p hp => by rw [rd_pieces l0 l1 p hp]; rfl, by unfold nextL; simp, fun k hk => by rw [hrow k hk]; simp, fun k p hk hp => ?_⟩
 rw [hrow k hk]
 unfold rdOf
 rw [Int.toNat_natCast, List.getD_eq_getElem?_getD, List.getElem?_map, List.getElem?_range hp]
 rfl
def natL (s : Sys) (i last : Nat) : List Int := ((List.range i).filter (s.nx last)).map fun (q : Nat) => (q : Int)
theorem natL_succ (s : Sys) (i last : Nat) : natL s (i + 1) last = if s.nx last i = true then natL s i last ++ [(i : Int)] else natL s i last := by
 unfold natL
 rw [List.range_succ, List.filter_append, List.map_append]
 by_cases h : s.nx last i = true
 ·rw [if_pos h, List.filter_cons_of_pos h]; rfl
 ·rw [if_neg h, List.filter_cons_of_neg h]; simp
theorem isMinus_eq (l0 : List Sg) (l1 : List P2) (a b : Int) : impl_System_isMinus.f l0 l1 a b = some (pairB l1 a b) := by
 unfold impl_System_isMinus.f slices_Contains_2_uint8_2_uint8.f slices_Index_2_uint8_2_uint8.f
 rw [Option.bind_some, Option.bind_some]
 exact congrArg some (idxP_any a b l1)
theorem build_l1 {l0 : List Sg} {l1 : List P2} (h : Val l0 l1) (x : List (List Int)) (last : Nat) (hl : last < l0.length + l1.length) (h5 : x.length ≤ 100) (R : List Pt × List (List Int)) (K : Nat)
  (h0 : ∀ k', K ≤ k' → impl_builderOf.l0 k' (partsL l0 l1) ((partsL l0 l1).length : Int) ((last + 1 : Nat) : Int) l0 l1 (partsL l0 l1) (x ++ [natL (sysOf l0 l1) (l0.length + l1.length) last]) = some R) :
  ∀ (d i k : Nat), i + d = l0.length + l1.length → K + d < k → impl_builderOf.l1 k (natL (sysOf l0 l1) i last) (partsL l0 l1) ((partsL l0 l1).length : Int) last (partsL l0 l1) ((partsL l0 l1).length : Int) i l0 l1 (partsL l0 l1) x (ptAt l0 l1 last).f0 (ptAt l0 l1 last).f1 = some R := by
 have n1 := h.n1
 have n2 := h.n2
 have hlen := parts_len l0 l1
 have hok := sysOf_ok h
 intro d
 induction d with
 | zero =>
  intro i k hi hK
  obtain ⟨k, rfl⟩ : ∃ k', k = k' + 1 := ⟨k - 1, by omega⟩
  obtain rfl : i = l0.length + l1.length := by omega
  unfold impl_builderOf.l1
  rw [if_neg (by omega), if_pos (by omega), wsucc last (by omega)]
  exact h0 k (by omega)
 | succ d ih =>
  intro i k hi hK
  obtain ⟨k, rfl⟩ : ∃ k', k = k' + 1 := ⟨k - 1, by omega⟩
  have hstep := ih (i + 1) k (by omega) (by omega)
  rw [natL_succ] at hstep
  have hll : (natL (sysOf l0 l1) i last).length ≤ i := by unfold natL; rw [List.length_map]; exact Nat.le_trans (List.length_filter_le _ _) (by simp)
  have hLi : 1 ≤ ((ptAt l0 l1 i).f0.size : Int) := hok.l0 i (show i < l0.length + l1.length by omega)
  have hLl : 1 ≤ ((ptAt l0 l1 last).f0.size : Int) := hok.l0 last (show last < l0.length + l1.length by omega)
  have hnx : (sysOf l0 l1).nx last i = (decide ((ptAt l0 l1 i).f1 ≤ (ptAt l0 l1 last).f1) && (decide ((ptAt l0 l1 last).f0.size = 2) || !pairB l1 (bt (ptAt l0 l1 last).f0 0) (bt (ptAt l0 l1 i).f0 0))) := by show (decide (last = l0.length + l1.length) || _) = _; rw [decide_eq_false (by omega)]; rfl
  rw [hnx] at hstep
  unfold impl_builderOf.l1
  rw [if_pos (by omega), if_pos (by omega), if_pos (by omega), rd_parts, wsucc i (by omega)]
  by_cases hv : (ptAt l0 l1 i).f1 ≤ (ptAt l0 l1 last).f1
  ·rw [if_pos hv]
   rw [decide_eq_true hv, Bool.true_and] at hstep
   by_cases hs : ((ptAt l0 l1 last).f0.size : Int) = 2
   ·rw [decide_eq_true (show (ptAt l0 l1 last).f0.size = 2 by omega), Bool.true_or, if_pos rfl] at hstep
    rw [if_pos hs, if_pos (by omega)]
    exact hstep
   ·rw [decide_eq_false (show ¬ (ptAt l0 l1 last).f0.size = 2 by omega), Bool.false_or] at hstep
    rw [if_neg hs, if_pos (by omega), if_pos (by omega), isMinus_eq, Option.bind_some]
    cases hp : pairB l1 (bt (ptAt l0 l1 last).f0 0) (bt (ptAt l0 l1 i).f0 0)
    ·rw [hp] at hstep
     rw [if_neg (by simp), if_pos (by omega)]
     exact hstep
    ·rw [hp] at hstep
     rw [if_pos rfl]
     exact hstep
  ·rw [decide_eq_false hv, Bool.false_and, if_neg (by simp)] at hstep
   rw [if_neg hv]
   exact hstep
theorem build_l0 {l0 : List Sg} {l1 : List P2} (h : Val l0 l1) :
  ∀ (d j k : Nat), j + d = l0.length + l1.length → d * 20 < k → impl_builderOf.l0 k (partsL l0 l1) ((partsL l0 l1).length : Int) j l0 l1 (partsL l0 l1) ((List.range j).map (natL (sysOf l0 l1) (l0.length + l1.length))) = some (partsL l0 l1, (List.range (l0.length + l1.length)).map (natL (sysOf l0 l1) (l0.length + l1.length))) := by
 have n1 := h.n1
 have n2 := h.n2
 have hlen := parts_len l0 l1
 intro d
 induction d with
 | zero =>
  intro j k hj hK
  obtain ⟨k, rfl⟩ : ∃ k', k = k' + 1 := ⟨k - 1, by omega⟩
  obtain rfl : j = l0.length + l1.length := by omega
  unfold impl_builderOf.l0
  rw [if_neg (by omega)]
 | succ d ih =>
  intro j k hj hK
  obtain ⟨k, rfl⟩ : ∃ k', k = k' + 1 := ⟨k - 1, by omega⟩
  unfold impl_builderOf.l0
  rw [if_pos (by omega), if_pos (by omega), if_pos (by omega), rd_parts]
  refine build_l1 h _ j (by omega) (by simp; omega) _ (d * 20 + 1) (fun k' hk' => ?_) (l0.length + l1.length) 0 k (by omega) (by omega)
  have := ih (j + 1) k' (by omega) (by omega)
  rw [range_map_take _ (l0.length + l1.length) j (by omega)] at this
  exact this
def nextT (l0 : List Sg) (l1 : List P2) : List (List Int) := (List.range (l0.length + l1.length)).map (natL (sysOf l0 l1) (l0.length + l1.length))
theorem builder_eq {l0 : List Sg} {l1 : List P2} (hw : wfSys l0 l1) (h : Val l0 l1) {k : Nat} (hk : 400 < k) : impl_builderOf.f k l0 l1 = some (partsL l0 l1, nextT l0 l1) := by
 unfold impl_builderOf.f impl_System_parts.f
 have n1 := h.n1
 have n2 := h.n2
 rw [if_pos ⟨hw, by omega, by omega⟩, Option.bind_some]
 exact build_l0 h (l0.length + l1.length) 0 k (by omega) (by omega)
theorem imp_of {l0 : List Sg} {l1 : List P2} (h : Val l0 l1) : Imp (sysOf l0 l1) (partsL l0 l1) (nextT l0 l1) := by
 refine ⟨parts_len l0 l1, fun p hp => by rw [rd_parts]; rfl, fun p hp => by rw [rd_parts]; rfl, by unfold nextT; simp; rfl, fun k hk => ?_⟩
 have hk' : k < l0.length + l1.length := hk
 unfold nextT
 rw [List.getD_eq_getElem?_getD, List.getElem?_map, List.getElem?_range hk']
 rfl
theorem all_l0 (n : Nat) (hn : n ≤ 1000) : ∀ (d i k : Nat), i + d = n → d < k → impl_builder_all.l0 k ((List.range i).map fun (q : Nat) => (q : Int)) (n : Int) i = some ((List.range n).map fun (q : Nat) => (q : Int)) := by
 intro d
 induction d with
 | zero =>
  intro i k hi hK
  obtain ⟨k, rfl⟩ : ∃ k', k = k' + 1 := ⟨k - 1, by omega⟩
  obtain rfl : i = n := by omega
  unfold impl_builder_all.l0
  rw [if_neg (by omega)]
 | succ d ih =>
  intro i k hi hK
  obtain ⟨k, rfl⟩ : ∃ k', k = k' + 1 := ⟨k - 1, by omega⟩
  unfold impl_builder_all.l0
  rw [if_pos (by omega), if_pos (by simp; omega), wsucc i (by omega)]
  have := ih (i + 1) k (by omega) (by omega)
  rw [range_map_take _ n i (by omega)] at this
  exact this
theorem all_eq {l0 : List Sg} {l1 : List P2} (h : Val l0 l1) (X : List (List Int)) {k : Nat} (hk : 100 < k) : impl_builder_all.f k (partsL l0 l1) X = some (nxL (sysOf l0 l1) (sysOf l0 l1).m) := by
 have n1 := h.n1
 have n2 := h.n2
 unfold impl_builder_all.f
 rw [parts_len, nxL_all _ (sysOf_ok h)]
 exact all_l0 (l0.length + l1.length) (by omega) (l0.length + l1.length) 0 k (by omega) (by omega)
abbrev Lg := S113
def toSg (s : Lg) : Sg := ⟨s.f0, s.f1⟩
theorem copy_step {α β : Type} (f : α → β) (l : List α) (z : α) (y : β) (n i : Nat) (hn : n = l.length) (h : i < l.length) : ((l.take i).map f ++ List.replicate (n - i) y).set i (f (l.getD i z)) = (l.take (i + 1)).map f ++ List.replicate (n - (i + 1)) y := by
 subst hn
 rw [show l.length - i = (l.length - (i + 1)) + 1 from by omega, List.replicate_succ, set_mid _ _ _ _ i (by simp; omega), take_map_succ f l z i h]
 simp
theorem toSigns_l0 (L : List Lg) (hL : L.length ≤ 1048576) : ∀ (d i k : Nat), i + d = L.length → d < k → laws_toSignS.l0 k L ((L.take i).map toSg ++ List.replicate (L.length - i) z102) i = some (L.map toSg) := by
 intro d
 induction d with
 | zero =>
  intro i k hi hk
  obtain ⟨k, rfl⟩ : ∃ k', k = k' + 1 := ⟨k - 1, by omega⟩
  unfold laws_toSignS.l0
  rw [if_neg (by omega), List.take_of_length_le (by omega), show L.length - i = 0 by omega]
  simp
 | succ d ih =>
  intro i k hi hk
  obtain ⟨k, rfl⟩ : ∃ k', k = k' + 1 := ⟨k - 1, by omega⟩
  unfold laws_toSignS.l0
  unfold laws_toSign.f
  rw [if_pos (by omega), if_pos (by omega), Option.bind_some, if_pos (by simp; omega), Int.toNat_natCast, wsucc i (by omega)]
  have := copy_step toSg L z113 z102 L.length i rfl (by omega)
  have e : (⟨(rd_T113 L (i : Int)).f0, (rd_T113 L (i : Int)).f1⟩ : Sg) = toSg (L.getD i z113) := by unfold rd_T113 toSg; rw [Int.toNat_natCast]
  dsimp only
  rw [e, this]
  exact ih (i + 1) k (by omega) (by omega)
theorem toSigns_eq (L : List Lg) (hL : L.length ≤ 1048576) {k : Nat} (hk : L.length < k) : laws_toSignS.f k L = some (L.map toSg) := by
 unfold laws_toSignS.f
 rw [if_pos (by omega), if_pos (by omega), Int.toNat_natCast]
 exact toSigns_l0 L hL L.length 0 k (by omega) (by omega)
theorem toPairs_l0 (L : List P2) (hL : L.length ≤ 1048576) : ∀ (d i k : Nat), i + d = L.length → d < k → laws_toByteA2S.l0 k L ((L.take i).map id ++ List.replicate (L.length - i) z104) i = some L := by
 intro d
 induction d with
 | zero =>
  intro i k hi hk
  obtain ⟨k, rfl⟩ : ∃ k', k = k' + 1 := ⟨k - 1, by omega⟩
  unfold laws_toByteA2S.l0
  rw [if_neg (by omega), List.take_of_length_le (by omega), show L.length - i = 0 by omega]
  simp
 | succ d ih =>
  intro i k hi hk
  obtain ⟨k, rfl⟩ : ∃ k', k = k' + 1 := ⟨k - 1, by omega⟩
  unfold laws_toByteA2S.l0
  unfold laws_toByteA2.f
  rw [if_pos (by omega), if_pos (by omega), Option.bind_some, if_pos (by simp; omega), Int.toNat_natCast, wsucc i (by omega)]
  have := copy_step id L z104 z104 L.length i rfl (by omega)
  have e : (⟨(rd_T104 L (i : Int)).f0, (rd_T104 L (i : Int)).f1⟩ : P2) = id (L.getD i z104) := by unfold rd_T104; rw [Int.toNat_natCast]; rfl
  dsimp only
  rw [e, this]
  exact ih (i + 1) k (by omega) (by omega)
theorem toPairs_eq (L : List P2) (hL : L.length ≤ 1048576) {k : Nat} (hk : L.length < k) : laws_toByteA2S.f k L = some L := by
 unfold laws_toByteA2S.f
 rw [if_pos (by omega), if_pos (by omega), Int.toNat_natCast]
 exact toPairs_l0 L hL L.length 0 k (by omega) (by omega)
theorem toSystem_eq (L : List Lg) (M : List P2) (hL : L.length ≤ 1048576) (hM : M.length ≤ 1048576) {k : Nat} (hk : L.length < k) (hk2 : M.length < k) : laws_toSystem.f k L M = some (L.map toSg, M) := by
 unfold laws_toSystem.f
 rw [toSigns_eq L hL hk, Option.bind_some, toPairs_eq M hM hk2, Option.bind_some]
theorem eqSigns_self (l : List Sg) (hl : l.length ≤ 1048576) {k : Nat} (hk : l.length < k) : laws_eqSignS.f k l l = some true := by
 have key : ∀ (d i k : Nat), i + d = l.length → d < k → laws_eqSignS.l0 k l l i = some true := by
  intro d
  induction d with
  | zero =>
   intro i k hi hk
   obtain ⟨k, rfl⟩ : ∃ k', k = k' + 1 := ⟨k - 1, by omega⟩
   unfold laws_eqSignS.l0
   rw [if_neg (by omega)]
  | succ d ih =>
   intro i k hi hk
   obtain ⟨k, rfl⟩ : ∃ k', k = k' + 1 := ⟨k - 1, by omega⟩
   unfold laws_eqSignS.l0 laws_eqSign.f
   rw [if_pos (by omega), if_pos (by omega), if_pos (by omega), if_pos rfl, if_pos rfl, Option.bind_some, if_pos rfl, wsucc i (by omega)]
   exact ih (i + 1) k (by omega) (by omega)
 unfold laws_eqSignS.f
 rw [if_pos rfl]
 exact key l.length 0 k (by omega) hk
theorem eqPair_self (a b : Int) {k : Nat} (hk : 5 < k) : laws_eqByteA2.f k a b a b = some true := by
 obtain ⟨k, rfl⟩ : ∃ k', k = k' + 3 := ⟨k - 3, by omega⟩
 unfold laws_eqByteA2.f
 have e1 : wrap64 (0 + 1) = 1 := by unfold wrap64; omega
 have e2 : wrap64 (1 + 1) = 2 := by unfold wrap64; omega
 unfold laws_eqByteA2.l0
 rw [if_pos (by omega), if_pos (by omega), if_pos rfl, e1]
 unfold laws_eqByteA2.l0
 rw [if_pos (by omega), if_pos (by omega), if_pos rfl, e2]
 unfold laws_eqByteA2.l0
 rw [if_neg (by omega)]
theorem eqPairs_self (l : List P2) (hl : l.length ≤ 1048576) {k : Nat} (hk : l.length + 10 < k) : laws_eqByteA2S.f k l l = some true := by
 have key : ∀ (d i k : Nat), i + d = l.length → d + 10 < k → laws_eqByteA2S.l0 k l l i = some true := by
  intro d
  induction d with
  | zero =>
   intro i k hi hk
   obtain ⟨k, rfl⟩ : ∃ k', k = k' + 1 := ⟨k - 1, by omega⟩
   unfold laws_eqByteA2S.l0
   rw [if_neg (by omega)]
  | succ d ih =>
   intro i k hi hk
   obtain ⟨k, rfl⟩ : ∃ k', k = k' + 1 := ⟨k - 1, by omega⟩
   unfold laws_eqByteA2S.l0
   rw [if_pos (by omega), if_pos (by omega), if_pos (by omega), eqPair_self _ _ (by omega), Option.bind_some, if_pos rfl, wsucc i (by omega)]
   exact ih (i + 1) k (by omega) (by omega)
 unfold laws_eqByteA2S.f
 rw [if_pos rfl]
 exact key l.length 0 k (by omega) hk
theorem eqSystem_self (l0 : List Sg) (l1 : List P2) (h0 : l0.length ≤ 1048576) (h1 : l1.length ≤ 1048576) {k : Nat} (hk : l0.length < k) (hk1 : l1.length + 10 < k) : laws_eqSystem.f k l0 l1 l0 l1 = some true := by
 unfold laws_eqSystem.f
 rw [eqSigns_self l0 h0 hk, Option.bind_some, if_pos rfl, eqPairs_self l1 h1 hk1, Option.bind_some, if_pos rfl]
theorem szSystem_eq (L : List Lg) (M : List P2) (hL : L.length ≤ 9223372036854775807) (hM : M.length ≤ 9223372036854775807) : ∃ r, laws_szSystem.f L M 1048576 = some r ∧ (0 ≤ r → L.length ≤ 1048576 ∧ M.length ≤ 1048576) := by
 unfold laws_szSystem.f laws_szSignS.f laws_szByteA2S.f
 rw [show wrap64 (1048576 - (L.length : Int)) = 1048576 - (L.length : Int) from by unfold wrap64; omega]
 by_cases h : 1048576 - (L.length : Int) < 0
 ·rw [if_pos h, Option.bind_some, if_pos (by omega)]
  exact ⟨-1, rfl, fun h => by omega⟩
 ·rw [if_neg h, Option.bind_some, if_neg h, show wrap64 (1048576 - (L.length : Int) - (M.length : Int)) = 1048576 - (L.length : Int) - (M.length : Int) from by unfold wrap64; omega]
  by_cases h2 : 1048576 - (L.length : Int) - (M.length : Int) < 0
  ·rw [if_pos h2, Option.bind_some, if_pos (by omega)]
   exact ⟨-1, rfl, fun h => by omega⟩
  ·rw [if_neg h2, Option.bind_some, if_neg h2]
   exact ⟨_, rfl, fun _ => by omega⟩
def wfL (L : List Lg) (M : List P2) : Prop := (∀ s ∈ L, (0 ≤ s.f0 ∧ s.f0 ≤ 255) ∧ (-32768 ≤ s.f1 ∧ s.f1 ≤ 32767)) ∧ (∀ p ∈ M, (0 ≤ p.f0 ∧ p.f0 ≤ 255) ∧ (0 ≤ p.f1 ∧ p.f1 ≤ 255))
theorem wf_of {L : List Lg} {M : List P2} (h : wfL L M) : wfSys (L.map toSg) M := by
 refine ⟨fun s hs => ?_, fun p hp => ?_⟩
 ·obtain ⟨x, hx, rfl⟩ := List.mem_map.1 hs
  have := h.1 x hx
  exact ⟨this.1.1, this.1.2, this.2.1, this.2.2⟩
 ·have := h.2 p hp
  exact ⟨this.1.1, this.1.2, this.2.1, this.2.2⟩
end Go.Proofs.Ytlepbhlbooajmaa.Pure
namespace Go.Proofs.Ytlepbhlbooajmaa.Ext
open Go.RowKit Go.Proofs.Ytlepbhlbooajmaa.Q Go.Proofs.YtlepbhlbooajmaaW.PrintWords Go.Proofs.YtlepbhlbooajmaaW.PrintLast Go.Proofs.YtlepbhlbooajmaaW.PrintMore
set_option linter.unusedVariables false
set_option linter.unusedSimpArgs false
abbrev Gr := Int × ByteArray
def noGr : Gr := (-1, ⟨#[]⟩)
def betterG (own out : Gr) : Bool := decide (out.1 < own.1) || ((own.1 == out.1) && (decide (0 ≤ own.1) && Op.bytesLess own.2.toList out.2.toList))
def bestG (row : List Gr) (first : List Int) : Gr := first.foldl (fun out k => if betterG (row.getD k.toNat noGr) out then row.getD k.toNat noGr else out) noGr
theorem bestG_snoc (row : List Gr) (first : List Int) (i : Nat) (h : i < first.length) : bestG row (first.take (i + 1)) = if betterG (row.getD (rd first i).toNat noGr) (bestG row (first.take i)) then row.getD (rd first i).toNat noGr else bestG row (first.take i) := by
 unfold bestG
 rw [List.take_add_one, List.getElem?_eq_getElem h, Option.toList_some, List.foldl_append]
 have e : rd first (i : Int) = first[i] := by unfold rd; rw [Int.toNat_natCast, List.getD_eq_getElem?_getD, List.getElem?_eq_getElem h]; rfl
 rw [e]
 rfl
set_option maxHeartbeats 2000000 in
set_option maxRecDepth 100000 in
theorem best_calls (gT gO gR n n' cR left : Nat) (row : List Gr) (A : Option Addr) (c : Nat) (first : List Int) (w : World)
  (hT : w.cell? ⟨gT, 0, none⟩ = some (.slice (some ⟨gO, 0, none⟩) n n')) (hln : left < n) (hO : w.cell? ⟨gO, left, none⟩ = some (.slice (some ⟨gR, 0, none⟩) row.length cR))
  (hR : ∀ k : Nat, k < row.length → w.cell? ⟨gR, k * 2, none⟩ = some (.int .i64 (row.getD k noGr).1) ∧ w.cell? ⟨gR, k * 2 + 1, none⟩ = some (.string (row.getD k noGr).2))
  (hf : Kd.C (Kd.int .i64) w A first.length first) (hm : ∀ q ∈ first, 0 ≤ q ∧ q < (row.length : Int)) :
  Calls Try.prog 34 #[.int .i64 left, .slice A first.length c, .pointer (some ⟨gT, 0, none⟩)] w fun e w' => e = .returned (.agg #[.int .i64 (bestG row first).1, .string (bestG row first).2]) ∧ Below w.heap.size w w' := by
 have hbig : first.length ≤ 9223372036854775807 := hf.2.1
 have HT := Aside0.mk hT
 have HO := Aside0.mk hO
 have HR := Aside0.mk hR
 have HF := Aside0.mk hf
 have HM := Aside0.mk hm
 have HLN := Aside0.mk hln
 have B5 := Aside0.mk (blk_alloc (blk_new w (.cells #[.int .i64 0, .string ⟨#[]⟩] 77 (0, 0))) (.cells #[.int .i64 (-1), .string ⟨#[]⟩] 77 (0, 0)))
 have B6 : Aside0 (((w.alloc (.cells #[.int .i64 0, .string ⟨#[]⟩] 77 (0, 0))).alloc (.cells #[.int .i64 (-1), .string ⟨#[]⟩] 77 (0, 0))).heap[w.heap.size + 1]? = some (.cells #[.int .i64 (-1), .string ⟨#[]⟩] 77 (0, 0))) := ⟨blk_at (by simp) _⟩
 have HB := Aside0.mk (bwA (bwA (Below.refl w.heap.size w) (.cells #[.int .i64 0, .string ⟨#[]⟩] 77 (0, 0))) (.cells #[.int .i64 (-1), .string ⟨#[]⟩] 77 (0, 0)))
 clear hT hO hR hf hm hln
 go_enter Try.func34, Try.ntmps34
 go_wp2_with fail
 revert B5 B6 HB
 generalize ((w.alloc (Obj.cells #[Value.int .i64 0, Value.string ⟨#[]⟩] 77)).alloc (Obj.cells #[Value.int .i64 (-1), Value.string ⟨#[]⟩] 77)) = v
 intro B5 B6 HB
 go_loopg [13] first.length (fun gg s13 wr => ∃ kk : Nat, kk ≤ first.length ∧ first.length - kk ≤ gg ∧ s13 = .int .i64 kk ∧ Aside0 (Below w.heap.size w wr) ∧ Aside0 (wr.heap[w.heap.size]? = some (.cells #[.int .i64 0, .string ⟨#[]⟩] 77 (0, 0))) ∧ Aside0 (wr.heap[w.heap.size + 1]? = some (.cells #[.int .i64 (bestG row (first.take kk)).1, .string (bestG row (first.take kk)).2] 77 (0, 0))))
 case atStart => exact ⟨0, Nat.zero_le _, by omega, rfl, HB, B5, B6⟩
 case round =>
  clear B5 B6 HB
  obtain ⟨kk, hkk, hgk, rfl, HB, B5, B6⟩ := hrel
  by_cases hlt : kk < first.length
  ·have hltz : (kk : Int) < (first.length : Int) := by omega
   obtain ⟨ad, rfl, hx⟩ := Kd.at_int HF.out kk (by omega) (by omega)
   rw [Int.toNat_natCast] at hx
   replace hx := cellB_ HB.out hx
   have HSN := Aside0.mk (bestG_snoc row first kk hlt)
   have hmem : rd first (kk : Int) ∈ first := by unfold rd; rw [Int.toNat_natCast, List.getD_eq_getElem?_getD, List.getElem?_eq_getElem hlt]; exact List.getElem_mem hlt
   obtain ⟨q0, q1⟩ := HM.out _ hmem
   generalize hq : rd first (kk : Int) = q at hx q0 q1 HSN
   clear hq hmem
   obtain ⟨p, rfl⟩ : ∃ p : Nat, q = (p : Int) := ⟨q.toNat, by omega⟩
   have hp : p < row.length := by omega
   rw [Int.toNat_natCast] at HSN
   have hc0 := cellB_ HB.out (HR.out p hp).1
   have hc1 := cellB_ HB.out (HR.out p hp).2
   have ht := cellB_ HB.out HT.out
   have ho := cellB_ HB.out HO.out
   have hln : (left : Int) < (n : Int) := by have := HLN.out; omega
   generalize row.getD p noGr = own at hc0 hc1 HSN
   generalize bestG row (first.take kk) = out at HSN B6
   obtain ⟨ov, os⟩ := own
   obtain ⟨bv, bs⟩ := out
   dsimp only at hc0 hc1 B6
   clear q0
   have K9 := Aside0.mk (blk_alloc B6.out (.cells #[.int .i64 ov, .string os] 77 (0, 0)))
   have L9 := Aside0.mk (blk_new wr (.cells #[.int .i64 ov, .string os] 77 (0, 0)))
   have hm0 : (wr.alloc (Obj.cells #[.int .i64 ov, .string os] 77 (0, 0))).cell? ⟨w.heap.size + 1, 0, none⟩ = some (.int .i64 bv) := (blk_cell K9.out 0).trans rfl
   have hm1 : (wr.alloc (Obj.cells #[.int .i64 ov, .string os] 77 (0, 0))).cell? ⟨w.heap.size + 1, 1, none⟩ = some (.string bs) := (blk_cell K9.out 1).trans rfl
   have hf0 := blk_frozen K9.out 0
   have hf1 := blk_frozen K9.out 1
   cases c1 : decide (bv < ov)
   ·cases c2 : (ov == bv)
    ·have HBT : Aside0 (betterG (ov, os) (bv, bs) = false) := ⟨by unfold betterG; dsimp only; rw [c1, c2]; rfl⟩
     go_wp2_with fail
     go_roundg (first.length - (kk + 1))
     case measure => omega
     case rel => exact ⟨kk + 1, by omega, by omega, by go_num, ⟨bwA HB.out _⟩, ⟨blk_alloc B5.out _⟩, ⟨by rw [HSN.out, HBT.out]; exact blk_alloc B6.out _⟩⟩
    ·cases c3 : decide (0 ≤ ov)
     ·have HBT : Aside0 (betterG (ov, os) (bv, bs) = false) := ⟨by unfold betterG; dsimp only; rw [c1, c2, c3]; rfl⟩
      go_wp2_with fail
      go_roundg (first.length - (kk + 1))
      case measure => omega
      case rel => exact ⟨kk + 1, by omega, by omega, by go_num, ⟨bwA HB.out _⟩, ⟨blk_alloc B5.out _⟩, ⟨by rw [HSN.out, HBT.out]; exact blk_alloc B6.out _⟩⟩
     ·cases c4 : Op.bytesLess os.toList bs.toList
      ·have HBT : Aside0 (betterG (ov, os) (bv, bs) = false) := ⟨by unfold betterG; dsimp only; rw [c1, c2, c3, c4]; rfl⟩
       go_wp2_with fail
       go_roundg (first.length - (kk + 1))
       case measure => omega
       case rel => exact ⟨kk + 1, by omega, by omega, by go_num, ⟨bwA HB.out _⟩, ⟨blk_alloc B5.out _⟩, ⟨by rw [HSN.out, HBT.out]; exact blk_alloc B6.out _⟩⟩
      ·have HBT : Aside0 (betterG (ov, os) (bv, bs) = true) := ⟨by unfold betterG; dsimp only; rw [c1, c2, c3, c4]; rfl⟩
       go_wp2_with fail
       go_roundg (first.length - (kk + 1))
       case measure => omega
       case rel => exact ⟨kk + 1, by omega, by omega, by go_num, ⟨below_set (below_set (bwA HB.out _) (Nat.le_succ _)) (Nat.le_succ _)⟩, ⟨blk_far (p := ⟨w.heap.size + 1, 1, none⟩) (blk_far (p := ⟨w.heap.size + 1, 0, none⟩) (blk_alloc B5.out _) (Nat.ne_of_lt (Nat.lt_succ_self _)) _) (Nat.ne_of_lt (Nat.lt_succ_self _)) _⟩, ⟨by rw [HSN.out, HBT.out]; exact blk_put (cs := #[.int .i64 ov, .string bs]) (blk_put (cs := #[.int .i64 bv, .string bs]) (blk_alloc B6.out _) 0 _ rfl) 1 _ rfl⟩⟩
   ·have HBT : Aside0 (betterG (ov, os) (bv, bs) = true) := ⟨by unfold betterG; dsimp only; rw [c1]; rfl⟩
    go_wp2_with fail
    go_roundg (first.length - (kk + 1))
    case measure => omega
    case rel => exact ⟨kk + 1, by omega, by omega, by go_num, ⟨below_set (below_set (bwA HB.out _) (Nat.le_succ _)) (Nat.le_succ _)⟩, ⟨blk_far (p := ⟨w.heap.size + 1, 1, none⟩) (blk_far (p := ⟨w.heap.size + 1, 0, none⟩) (blk_alloc B5.out _) (Nat.ne_of_lt (Nat.lt_succ_self _)) _) (Nat.ne_of_lt (Nat.lt_succ_self _)) _⟩, ⟨by rw [HSN.out, HBT.out]; exact blk_put (cs := #[.int .i64 ov, .string bs]) (blk_put (cs := #[.int .i64 bv, .string bs]) (blk_alloc B6.out _) 0 _ rfl) 1 _ rfl⟩⟩
  ·have hltz : ¬ (kk : Int) < (first.length : Int) := by omega
   obtain rfl : kk = first.length := by omega
   rw [List.take_length] at B6
   have hm0 : wr.cell? ⟨w.heap.size + 1, 0, none⟩ = some (.int .i64 (bestG row first).1) := (blk_cell B6.out 0).trans rfl
   have hm1 : wr.cell? ⟨w.heap.size + 1, 1, none⟩ = some (.string (bestG row first).2) := (blk_cell B6.out 1).trans rfl
   have hn0 : wr.cell? ⟨w.heap.size, 0, none⟩ = some (.int .i64 0) := (blk_cell B5.out 0).trans rfl
   have hn1 : wr.cell? ⟨w.heap.size, 1, none⟩ = some (.string ⟨#[]⟩) := (blk_cell B5.out 1).trans rfl
   have hg0 := blk_frozen B5.out 0
   have hg1 := blk_frozen B5.out 1
   go_wp2_with fail
   have B9 := Aside0.mk (blk_put (cs := #[.int .i64 (bestG row first).1, .string ⟨#[]⟩]) (blk_put (cs := #[.int .i64 0, .string ⟨#[]⟩]) B5.out 0 (.int .i64 (bestG row first).1) rfl) 1 (.string (bestG row first).2) rfl)
   have r0 : ((wr.setCell ⟨w.heap.size, 0, none⟩ (.int .i64 (bestG row first).1)).setCell ⟨w.heap.size, 1, none⟩ (.string (bestG row first).2)).cell? ⟨w.heap.size, 0, none⟩ = some (.int .i64 (bestG row first).1) := (blk_cell B9.out 0).trans rfl
   have r1 : ((wr.setCell ⟨w.heap.size, 0, none⟩ (.int .i64 (bestG row first).1)).setCell ⟨w.heap.size, 1, none⟩ (.string (bestG row first).2)).cell? ⟨w.heap.size, 1, none⟩ = some (.string (bestG row first).2) := (blk_cell B9.out 1).trans rfl
   refine bodyPost_ret (v := .agg #[.int .i64 (bestG row first).1, .string (bestG row first).2]) (by simp [results, Try.results34, go_sem, r0, r1]) rfl ⟨rfl, ?_⟩
   exact below_set (below_set HB.out (Nat.le_refl _)) (Nat.le_refl _)
open Go.RowKit Go.Proofs.Ytlepbhlbooajmaa.Q Go.Proofs.Ytlepbhlbooajmaa.Pure Go.Proofs.YtlepbhlbooajmaaW.PrintWords Go.Proofs.YtlepbhlbooajmaaW.PrintLast Go.Proofs.YtlepbhlbooajmaaW.PrintMore
def tsz (s : Pure.Sys) (k : Nat) : Int := ((s.T k).size : Int)
def cellG (s : Pure.Sys) (tab : List (List Gr)) (left : Nat) (k : Nat) : Gr :=
 if (left : Int) - tsz s k = 0 then (s.V k, s.T k) else if (left : Int) - tsz s k > 0 then
  (if 0 ≤ (bestG (tab.getD ((left : Int) - tsz s k).toNat []) (nxL s k)).1 then (s.V k + (bestG (tab.getD ((left : Int) - tsz s k).toNat []) (nxL s k)).1, s.T k ++ (bestG (tab.getD ((left : Int) - tsz s k).toNat []) (nxL s k)).2) else noGr)
 else noGr
def rowG (s : Pure.Sys) (tab : List (List Gr)) (left : Nat) : List Gr := (List.range s.m).map (cellG s tab left)
def tabG (s : Pure.Sys) : Nat → List (List Gr)
 | 0 => []
 | j + 1 => tabG s j ++ [rowG s (tabG s j) j]
theorem tabG_len (s : Pure.Sys) (n : Nat) : (tabG s n).length = n := by
 induction n with
 | zero => rfl
 | succ n ih => simp [tabG, ih]
theorem tabG_get (s : Pure.Sys) {j n : Nat} (h : j < n) : (tabG s n).getD j [] = rowG s (tabG s j) j := by
 induction n with
 | zero => omega
 | succ n ih =>
  rw [show tabG s (n + 1) = tabG s n ++ [rowG s (tabG s n) n] from rfl]
  by_cases e : j = n
  ·subst e
   rw [List.getD_eq_getElem?_getD, List.getElem?_append_right (by rw [tabG_len]; omega), tabG_len]
   simp
  ·rw [List.getD_eq_getElem?_getD, List.getElem?_append_left (by rw [tabG_len]; omega), ← List.getD_eq_getElem?_getD]
   exact ih (by omega)
theorem rowG_len (s : Pure.Sys) (tab : List (List Gr)) (j : Nat) : (rowG s tab j).length = s.m := by unfold rowG; simp
def okGr (left : Nat) (g : Gr) : Prop := -1 ≤ g.1 ∧ g.1 ≤ 32767 * (left : Int) ∧ g.2.size ≤ left
theorem bestG_ok (row : List Gr) (left : Nat) (hrow : ∀ g ∈ row, okGr left g) : ∀ (first : List Int), okGr left (bestG row first) := by
 have key : ∀ (first : List Int) (out : Gr), okGr left out → okGr left (first.foldl (fun out k => if betterG (row.getD k.toNat noGr) out then row.getD k.toNat noGr else out) out) := by
  intro first
  induction first with
  | nil => intro out h; exact h
  | cons x xs ih =>
   intro out h
   refine ih _ ?_
   show okGr left (if betterG (row.getD x.toNat noGr) out then row.getD x.toNat noGr else out)
   split
   ·rw [List.getD_eq_getElem?_getD]
    cases hx : row[x.toNat]? with
    | none => exact ⟨by decide, by show (-1 : Int) ≤ _; omega, Nat.zero_le _⟩
    | some g => exact hrow g (List.mem_of_getElem? hx)
   ·exact h
 intro first
 exact key first noGr ⟨by decide, by show (-1 : Int) ≤ _; omega, Nat.zero_le _⟩
theorem tabG_ok (s : Pure.Sys) (ho : s.ok) : ∀ (j : Nat), ∀ g ∈ rowG s (tabG s j) j, okGr j g := by
 intro j
 induction j using Nat.strongRecOn with
 | _ j ih =>
  intro g hg
  unfold rowG at hg
  obtain ⟨k, hk, rfl⟩ := List.mem_map.1 hg
  have hk := List.mem_range.1 hk
  have v0 := ho.v0 k hk
  have v1 := ho.v1 k hk
  have t0 : 1 ≤ tsz s k := ho.l0 k hk
  have t1 : tsz s k ≤ 2 := ho.l1 k hk
  have et : tsz s k = ((s.T k).size : Int) := rfl
  have hno : okGr j noGr := ⟨by decide, by show (-1 : Int) ≤ _; omega, Nat.zero_le _⟩
  unfold cellG
  split
  ·exact ⟨by show -1 ≤ s.V k; omega, by show s.V k ≤ _; omega, by show (s.T k).size ≤ j; omega⟩
  ·split
   ·split
    ·obtain ⟨r, hr⟩ : ∃ r : Nat, (j : Int) - tsz s k = (r : Int) := ⟨((j : Int) - tsz s k).toNat, by omega⟩
     rw [hr, Int.toNat_natCast]
     have hrj : r < j := by omega
     rw [tabG_get s hrj]
     have hb := bestG_ok (rowG s (tabG s r) r) r (ih r hrj) (nxL s k)
     generalize bestG (rowG s (tabG s r) r) (nxL s k) = o at hb
     obtain ⟨b0, b1, b2⟩ := hb
     refine ⟨by show -1 ≤ s.V k + o.1; omega, by show s.V k + o.1 ≤ _; omega, ?_⟩
     show (s.T k ++ o.2).size ≤ j
     rw [ByteArray.size_append]; omega
    ·exact hno
   ·exact hno
def rowV (row : List Gr) : Array Value := (row.flatMap fun g => [.int .i64 g.1, .string g.2]).toArray
theorem flat_get (row : List Gr) : ∀ (k : Nat), k < row.length → (row.flatMap fun g => [Value.int .i64 g.1, Value.string g.2])[k * 2]? = some (.int .i64 (row.getD k noGr).1) ∧ (row.flatMap fun g => [Value.int .i64 g.1, Value.string g.2])[k * 2 + 1]? = some (.string (row.getD k noGr).2) := by
 induction row with
 | nil => intro k h; simp at h
 | cons g t ih =>
  intro k h
  rw [List.flatMap_cons]
  cases k with
  | zero => exact ⟨rfl, rfl⟩
  | succ k =>
   have := ih k (by simpa using h)
   rw [show (k + 1) * 2 = k * 2 + 1 + 1 from by omega]
   exact this
theorem rowV_cell {w : World} {g : Nat} {row : List Gr} (h : w.heap[g]? = some (.cells (rowV row) 77 (0, 0))) (k : Nat) (hk : k < row.length) : w.cell? ⟨g, k * 2, none⟩ = some (.int .i64 (row.getD k noGr).1) ∧ w.cell? ⟨g, k * 2 + 1, none⟩ = some (.string (row.getD k noGr).2) := by
 have := flat_get row k hk
 refine ⟨(blk_cell h _).trans ?_, (blk_cell h _).trans ?_⟩
 ·unfold rowV; rw [List.getElem?_toArray]; exact this.1
 ·unfold rowV; rw [List.getElem?_toArray]; exact this.2
theorem flat_set (row : List Gr) (v : Int) (t : ByteArray) : ∀ (k : Nat), k < row.length → ((row.flatMap fun g => [Value.int .i64 g.1, Value.string g.2]).set (k * 2) (.int .i64 v)).set (k * 2 + 1) (.string t) = (row.set k (v, t)).flatMap fun g => [Value.int .i64 g.1, Value.string g.2] := by
 induction row with
 | nil => intro k h; simp at h
 | cons g tl ih =>
  intro k h
  rw [List.flatMap_cons]
  cases k with
  | zero => rfl
  | succ k =>
   have := ih k (by simpa using h)
   rw [show (k + 1) * 2 = k * 2 + 1 + 1 from by omega, List.set_cons_succ, List.flatMap_cons, ← this]
   rfl
theorem rowV_set (row : List Gr) (v : Int) (t : ByteArray) (k : Nat) (h : k < row.length) : ((rowV row).setIfInBounds (k * 2) (.int .i64 v)).setIfInBounds (k * 2 + 1) (.string t) = rowV (row.set k (v, t)) := by
 unfold rowV
 rw [List.setIfInBounds_toArray, List.setIfInBounds_toArray, flat_set row v t k h]
theorem rowV_zero (m : Nat) : madeCells #[Value.int .i64 0, Value.string ⟨#[]⟩] (m * 2) = rowV (List.replicate m (0, ⟨#[]⟩)) := by
 have key : ∀ m : Nat, (List.range (m * 2)).map (fun x => #[Value.int .i64 0, Value.string ⟨#[]⟩][x % 2]!) = (List.replicate m ((0, ⟨#[]⟩) : Gr)).flatMap fun g => [Value.int .i64 g.1, Value.string g.2] := by
  intro m
  induction m with
  | zero => rfl
  | succ m ih =>
   have e0 : m * 2 % 2 = 0 := by omega
   have e1 : (m * 2 + 1) % 2 = 1 := by omega
   rw [List.replicate_succ', List.flatMap_append, ← ih, show (m + 1) * 2 = m * 2 + 1 + 1 from by omega, List.range_succ, List.range_succ, List.map_append, List.map_append, List.append_assoc]
   simp only [List.map_cons, List.map_nil, e0, e1]
   rfl
 apply Array.toList_inj.1
 unfold rowV madeCells
 rw [← key m]
 simp
theorem run_mk {P : Program} (t e : TypeId) (z : Value) (sz bytes : Nat) (ht : P.underlying t = some (.slice e)) (hinfo : (P.info? e).map (fun i => (i.zero, i.size, i.bytes)) = some (some z, sz, bytes)) (hb0 : 0 < bytes) (m : Nat) (hl : m * bytes ≤ 281474976710656) :
  ∀ W : World, (Instr.makeSlice t (.int .i64 (m : Int)) (.int .i64 (m : Int))).run P W = .ok (.slice (some ⟨W.heap.size, 0, none⟩) m m) (W.alloc (.cells (madeCells z.cells (m * sz)) e)) := by
 intro W
 obtain ⟨i0, hi, hzz⟩ := Option.map_eq_some_iff.1 hinfo
 simp only [Prod.mk.injEq] at hzz
 obtain ⟨hz0, hz1, hz2⟩ := hzz
 have hm : m ≤ 281474976710656 := Nat.le_trans (Nat.le_mul_of_pos_right _ hb0) hl
 have hr := run_make (P := P) W t e i0 z ht hi hz0 .i64 .i64 (m : Int) (m : Int) (by omega) (by omega)
  (by
   have h3 : ((i0.bytes * m : Nat) : Int) ≤ 281474976710656 := by rw [hz2, Nat.mul_comm]; omega
   rwa [Int.natCast_mul] at h3) (by omega)
 simp only [Int.toNat_natCast] at hr
 rw [hz1] at hr
 exact hr
theorem info_gr : (Try.prog.info? 77).map (fun i => (i.zero, i.size, i.bytes)) = some (some (.agg #[.int .i64 0, .string ⟨#[]⟩]), 2, 24) := by kernel_rfl
theorem info_gs : (Try.prog.info? 78).map (fun i => (i.zero, i.size, i.bytes)) = some (some (.slice none 0 0), 1, 24) := by kernel_rfl
end Go.Proofs.Ytlepbhlbooajmaa.Ext
