/- Contracts and plain laws of functions of the given program; no conditions beside those in the theorems. -/
import Derived.Test.YtlepbhlbooajmaaC1LongestNumber
import Derived.Test.YtlepbhlbooajmaaC4LongestNumber
import Derived.Test.YtlepbhlbooajmaaC2LongestNumber
import Derived.Test.YtlepbhlbooajmaaC3LongestNumber
import Derived.Test.YtlepbhlbooajmaaC5LongestNumber
import Derived.Test.YtlepbhlbooajmaaC0LongestNumber
import Derived.ProofKit
import Derived.OpenShut
import Derived.Below
import Derived.SizedLaws
import Derived.ShutString
import Derived.Deep.Slices
namespace Go.Proofs.Ytlepbhlbooajmaa.Ext
end Go.Proofs.Ytlepbhlbooajmaa.Ext
namespace Go.Proofs.Ytlepbhlbooajmaa.Q
open Go.Proofs.Ytlepbhlbooajmaa.Ext
open Go.RowKit Go.Proofs.YtlepbhlbooajmaaW.PrintWords Go.Proofs.YtlepbhlbooajmaaW.PrintLast Go.Proofs.YtlepbhlbooajmaaW.PrintMore
attribute [local go_sem] max2_int min2_int max_two min_two max_three min_three max_four min_four
set_option linter.unusedVariables false
set_option linter.unusedSimpArgs false
mutual
def spec_LongestNumber.j0 : Nat → Int → Int → Bool → List (S102) → List (S104) → Option (Int × ByteArray × Int)
 | 0, _, _, _, _, _ => none
 | k + 1, x1, x2, x29, x373000, x373001 => if x29 = true then (some (0, (⟨#[]⟩ : ByteArray), 2)) else ((spec_l03Pieces.f k x373000 x373001).bind fun t376 => ((spec_l03Next.f k x373000 x373001 t376).bind fun t379 => ((spec_l03Lens.f k t376 t379 x2).bind fun t382 => (spec_LongestNumber.l0 k x2 t376 t379 t382 (-1) x1))))
def spec_LongestNumber.l0 : Nat → Int → List (S108) → List (List Bool) → List (List Int) → Int → Int → Option (Int × ByteArray × Int)
 | 0, _, _, _, _, _, _ => none
 | k + 1, x2, x9, x10, x11, x12, x13 => if x13 ≤ x2 then (if 0 ≤ x13 then (if x13 < (x11.length : Int) then (if 0 ≤ (x9.length : Int) then (if (x9.length : Int) < ((rd_L12 x11 x13).length : Int) then (if (rd (rd_L12 x11 x13) (x9.length : Int)) ≤ 16 then (if x12 < 0 then (spec_LongestNumber.l0 k x2 x9 x10 x11 x13 (wrap64 (x13 + 1))) else (if 0 ≤ x12 then (if x12 < (x11.length : Int) then (if (x9.length : Int) < ((rd_L12 x11 x12).length : Int) then (if (rd (rd_L12 x11 x13) (x9.length : Int)) > (rd (rd_L12 x11 x12) (x9.length : Int)) then (spec_LongestNumber.l0 k x2 x9 x10 x11 x13 (wrap64 (x13 + 1))) else (spec_LongestNumber.l0 k x2 x9 x10 x11 x12 (wrap64 (x13 + 1)))) else (none)) else (none)) else (none))) else (spec_LongestNumber.l0 k x2 x9 x10 x11 x12 (wrap64 (x13 + 1)))) else (none)) else (none)) else (none)) else (none)) else (if x12 < 0 then (some (0, (⟨#[]⟩ : ByteArray), 6)) else ((spec_l03First.f k x9 x10 x11 x12 (x9.length : Int)).bind fun t389 => (some (x12, t389, 0))))
end
def spec_LongestNumber.f (k : Nat) (l0_0 : List (S102)) (l0_1 : List (S104)) (a1 : Int) (a2 : Int) : Option (Int × ByteArray × Int) := (spec_l03Ok.f l0_0 l0_1).bind fun t373 => (if t373 = true then ((spec_l03Number.f a1).bind fun t374 => (if t374 = true then ((spec_l03Number.f a2).bind fun t375 => (if t375 = true then (spec_LongestNumber.j0 k a1 a2 (decide (a1 > a2)) l0_0 l0_1) else (spec_LongestNumber.j0 k a1 a2 true l0_0 l0_1))) else (spec_LongestNumber.j0 k a1 a2 true l0_0 l0_1))) else (some (0, (⟨#[]⟩ : ByteArray), 1)))
set_option maxHeartbeats 8000000 in
set_option maxRecDepth 100000 in
theorem spec_LongestNumber.calls (k : Nat) (A0_0 : Option Addr) (c0_0 : Nat) (l0_0 : List (S102)) (A0_1 : Option Addr) (c0_1 : Nat) (l0_1 : List (S104)) (a1 a2 r1 : Int) (r2 : ByteArray) (r3 : Int) (w : World) (hr0_0 : Kd.C k102 w A0_0 l0_0.length l0_0) (hc0_0 : l0_0.length ≤ c0_0) (hr0_1 : Kd.C k104 w A0_1 l0_1.length l0_1) (hc0_1 : l0_1.length ≤ c0_1) (h : spec_LongestNumber.f k l0_0 l0_1 a1 a2 = some (r1, r2, r3)) :
  Calls Try.prog 14 #[.agg #[.slice A0_0 l0_0.length c0_0, .slice A0_1 l0_1.length c0_1], .int .i64 a1, .int .i64 a2] w fun e w' => e = .returned (.tuple #[.int .i64 r1, .string r2, .int .i64 r3]) ∧ Below w.heap.size w w' := by
 have hu31 := Try.underlying31
 have HR0_0 := Aside0.mk hr0_0
 have HC0_0 := Aside0.mk hc0_0
 clear hr0_0 hc0_0
 have HR0_1 := Aside0.mk hr0_1
 have HC0_1 := Aside0.mk hc0_1
 clear hr0_1 hc0_1
 have HB := Aside0.mk (Below.refl w.heap.size w)
 have H : ((spec_l03Ok.f l0_0 l0_1).bind fun t373 => (if t373 = true then ((spec_l03Number.f a1).bind fun t374 => (if t374 = true then ((spec_l03Number.f a2).bind fun t375 => (if t375 = true then (spec_LongestNumber.j0 k a1 a2 (decide (a1 > a2)) l0_0 l0_1) else (spec_LongestNumber.j0 k a1 a2 true l0_0 l0_1))) else (spec_LongestNumber.j0 k a1 a2 true l0_0 l0_1))) else (some (0, (⟨#[]⟩ : ByteArray), 1)))) = some (r1, r2, r3) := h
 clear h
 replace H := Option.bind_eq_some_iff.mp H
 obtain ⟨t373, A40, H⟩ := H
 (try dsimp only at H)
 have A4 := Aside0.mk A40
 clear A40
 by_cases c5 : t373 = true
 ·subst c5
  have H1 : ((spec_l03Number.f a1).bind fun t374 => (if t374 = true then ((spec_l03Number.f a2).bind fun t375 => (if t375 = true then (spec_LongestNumber.j0 k a1 a2 (decide (a1 > a2)) l0_0 l0_1) else (spec_LongestNumber.j0 k a1 a2 true l0_0 l0_1))) else (spec_LongestNumber.j0 k a1 a2 true l0_0 l0_1))) = some (r1, r2, r3) := by rw [if_pos rfl] at H; exact H
  clear H
  have H := H1
  clear H1
  have HC6 := Aside0.mk H
  clear H
  go_enter Try.func14, Try.ntmps14
  go_upto_region 3 with (first | ((with_reducible refine gate_dst (N := 3) rfl ?_); (try (refine gate_guard (by rfl) ?_; dsimp only)); refine box_event ?hg (N := 3) ?hd (cs := #[.slice A0_0 l0_0.length c0_0, .slice A0_1 l0_1.length c0_1]) (t := 31) ?hr ?_; (case hd => rfl); (case hg => rfl); (case hr => first | (go_simp; done) | (go_simp; rfl)); intro gb372 hg w7 hbox hb; have n0_ := Aside0.mk (below_step (by repeat (first | (with_reducible first | exact HB.out | apply bwA | apply pwN | apply bw1) | exact HB.out)) hb); have n1_ := Aside0.mk (hbox); have n2_ := Aside0.mk ((by rw [hg]; exact (below_size (by repeat (first | (with_reducible first | exact HB.out | apply bwA | apply pwN | apply bw1) | exact HB.out))) : w.heap.size ≤ gb372)); have n3_ := Aside0.mk (n2_.out); clear HB; have HB := n0_; have BK372 := n1_; have GW372 := n2_; have GE372 := n3_; clear n0_ n1_ n2_ n3_; clear hb hbox hg; have HI372 := Aside0.mk (show IsS31 w w7 gb372 l0_0 l0_1 from ⟨A0_0, c0_0, A0_1, c0_1, BK372.out, GW372.out, HR0_0.out, HR0_1.out⟩)) | ((with_reducible refine gate_callee (f := 23) rfl ?_); refine goesL_ (some 15) rfl rfl Try.func23 (by kernel_rfl) rfl #[.pointer (some ⟨gb372, 0, none⟩)] rfl (by (try simp only [List.map_toArray, List.map_cons, List.map_nil]); first | done | rfl | (simp only [List.length_drop, List.length_take]; rfl)) ?_; (with_reducible refine (spec_l03Ok.calls gb372 l0_0 l0_1 true w _ ?side1 ?side2 A4.out).mono ?_); (case side1 => repeat (first | (with_reducible first | exact HI372.out | apply IsS31.alloc | apply IsS31.drewN | apply IsS31.drew) | exact HI372.out)); (case side2 => repeat (first | (with_reducible first | exact HB.out | apply bwA | apply pwN | apply bw1 | refine below_set ?_ (IsS31.ge HI372.out)) | exact HB.out)); rintro e w8 ⟨rfl, hi, hb, hk⟩; refine ⟨_, rfl, ?_⟩; have n0_ := Aside0.mk (hb); have n1_ := Aside0.mk (hi); clear HB; clear HI372; have HB := n0_; have HI372 := n1_; clear n0_ n1_; (try clear hb); (try clear hb2); (try clear hk); (try clear hi)))
  (try simp only [Act.put, List.setIfInBounds_toArray, List.set_cons_zero, List.set_cons_succ])
  go_cut [29] (fun v29 wc => ∃ (kq : Nat) (x29_5 : Bool), v29 = .bool x29_5 ∧ Aside0 (spec_LongestNumber.j0 kq a1 a2 x29_5 l0_0 l0_1 = some (r1, r2, r3)) ∧ Aside0 (kq ≤ k) ∧ Aside0 (IsS31 w wc gb372 l0_0 l0_1) ∧ Aside0 (Below w.heap.size w wc))
  case first =>
   have H := HC6.out
   clear HC6
   replace H := Option.bind_eq_some_iff.mp H
   obtain ⟨t374, A90, H⟩ := H
   (try dsimp only at H)
   have A9 := Aside0.mk A90
   clear A90
   by_cases c10 : t374 = true
   ·subst c10
    have H1 : ((spec_l03Number.f a2).bind fun t375 => (if t375 = true then (spec_LongestNumber.j0 k a1 a2 (decide (a1 > a2)) l0_0 l0_1) else (spec_LongestNumber.j0 k a1 a2 true l0_0 l0_1))) = some (r1, r2, r3) := by rw [if_pos rfl] at H; exact H
    clear H
    have H := H1
    clear H1
    replace H := Option.bind_eq_some_iff.mp H
    obtain ⟨t375, A110, H⟩ := H
    (try dsimp only at H)
    have A11 := Aside0.mk A110
    clear A110
    by_cases c12 : t375 = true
    ·subst c12
     have H1 : (spec_LongestNumber.j0 k a1 a2 (decide (a1 > a2)) l0_0 l0_1) = some (r1, r2, r3) := by rw [if_pos rfl] at H; exact H
     clear H
     have H := H1
     clear H1
     have H' := Aside0.mk H
     clear H
     go_wp2_with (first | ((with_reducible refine gate_callee (f := 38) rfl ?_); refine goesL_ (some 18) rfl rfl Try.func38 (by kernel_rfl) rfl #[.int .i64 a1] rfl (by (try simp only [List.map_toArray, List.map_cons, List.map_nil]); first | done | rfl | (simp only [List.length_drop, List.length_take]; rfl)) ?_; (with_reducible refine (spec_l03Number.calls a1 true _ A9.out).mono ?_); rintro e w' ⟨rfl, ⟨nd, rfl⟩⟩; refine ⟨_, rfl, ?_⟩) | (go_at_call 38; (with_reducible refine (spec_l03Number.calls a2 true _ A11.out).mono ?_); rintro e w' ⟨rfl, ⟨nd, rfl⟩⟩))
     go_meet
     case rel => exact ⟨_, (decide (a1 > a2)), (by first | rfl | (simp; done) | (simp [*]; done)), H', ⟨by first | omega | exact Nat.le_refl _⟩, ⟨by repeat (first | (with_reducible first | exact HI372.out | apply IsS31.alloc | apply IsS31.drewN | apply IsS31.drew) | exact HI372.out)⟩, ⟨by repeat (first | (with_reducible first | exact HB.out | apply bwA | apply pwN | apply bw1 | refine below_set ?_ (IsS31.ge HI372.out)) | exact HB.out)⟩⟩
    ·replace c12 := Bool.eq_false_iff.mpr c12
     subst c12
     have H1 : (spec_LongestNumber.j0 k a1 a2 true l0_0 l0_1) = some (r1, r2, r3) := by rw [if_neg (show ¬ (false = true) by decide)] at H; exact H
     clear H
     have H := H1
     clear H1
     have H' := Aside0.mk H
     clear H
     go_wp2_with (first | ((with_reducible refine gate_callee (f := 38) rfl ?_); refine goesL_ (some 18) rfl rfl Try.func38 (by kernel_rfl) rfl #[.int .i64 a1] rfl (by (try simp only [List.map_toArray, List.map_cons, List.map_nil]); first | done | rfl | (simp only [List.length_drop, List.length_take]; rfl)) ?_; (with_reducible refine (spec_l03Number.calls a1 true _ A9.out).mono ?_); rintro e w' ⟨rfl, ⟨nd, rfl⟩⟩; refine ⟨_, rfl, ?_⟩) | (go_at_call 38; (with_reducible refine (spec_l03Number.calls a2 false _ A11.out).mono ?_); rintro e w' ⟨rfl, ⟨nd, rfl⟩⟩))
     go_meet
     case rel => exact ⟨_, (true), (by first | rfl | (simp; done) | (simp [*]; done)), H', ⟨by first | omega | exact Nat.le_refl _⟩, ⟨by repeat (first | (with_reducible first | exact HI372.out | apply IsS31.alloc | apply IsS31.drewN | apply IsS31.drew) | exact HI372.out)⟩, ⟨by repeat (first | (with_reducible first | exact HB.out | apply bwA | apply pwN | apply bw1 | refine below_set ?_ (IsS31.ge HI372.out)) | exact HB.out)⟩⟩
   ·replace c10 := Bool.eq_false_iff.mpr c10
    subst c10
    have H1 : (spec_LongestNumber.j0 k a1 a2 true l0_0 l0_1) = some (r1, r2, r3) := by rw [if_neg (show ¬ (false = true) by decide)] at H; exact H
    clear H
    have H := H1
    clear H1
    have H' := Aside0.mk H
    clear H
    go_wp2_with (first | ((with_reducible refine gate_callee (f := 38) rfl ?_); refine goesL_ (some 18) rfl rfl Try.func38 (by kernel_rfl) rfl #[.int .i64 a1] rfl (by (try simp only [List.map_toArray, List.map_cons, List.map_nil]); first | done | rfl | (simp only [List.length_drop, List.length_take]; rfl)) ?_; (with_reducible refine (spec_l03Number.calls a1 false _ A9.out).mono ?_); rintro e w' ⟨rfl, ⟨nd, rfl⟩⟩; refine ⟨_, rfl, ?_⟩))
    go_meet
    case rel => exact ⟨_, (true), (by first | rfl | (simp; done) | (simp [*]; done)), H', ⟨by first | omega | exact Nat.le_refl _⟩, ⟨by repeat (first | (with_reducible first | exact HI372.out | apply IsS31.alloc | apply IsS31.drewN | apply IsS31.drew) | exact HI372.out)⟩, ⟨by repeat (first | (with_reducible first | exact HB.out | apply bwA | apply pwN | apply bw1 | refine below_set ?_ (IsS31.ge HI372.out)) | exact HB.out)⟩⟩
  case rest =>
   clear HC6
   try clear c1
   try clear c2
   try clear p2
   try clear c3
   try clear c5
   try clear c10
   try clear c12
   obtain ⟨kq, x29_5, rfl, HA, HJ5, HI372, HB⟩ := hcut
   cases kq with
   | zero => exact absurd HA.out (by simp [spec_LongestNumber.j0])
   | succ kj5 =>
    have H := HA.out
    clear HA
    simp only [spec_LongestNumber.j0] at H
    by_cases c13 : x29_5 = true
    ·subst c13
     have H1 : (some (0, (⟨#[]⟩ : ByteArray), 2)) = some (r1, r2, r3) := by rw [if_pos rfl] at H; exact H
     clear H
     have H := H1
     clear H1
     simp only [Option.some.injEq, Prod.mk.injEq] at H
     obtain ⟨rfl, rfl, rfl⟩ := H
     go_wp2
     go_ret3
     exact ⟨by first | rfl | (simp [errW_none, errW_some, i64_w]; done) | (simp [errW_none, errW_some] <;> rfl) | (simp [*, errW_none, errW_some] <;> rfl), by repeat (first | (with_reducible first | exact HB.out | apply bwA | apply pwN | apply bw1 | refine below_set ?_ (IsS31.ge HI372.out)) | exact HB.out)⟩
    ·replace c13 := Bool.eq_false_iff.mpr c13
     subst c13
     have H1 : ((spec_l03Pieces.f kj5 l0_0 l0_1).bind fun t376 => ((spec_l03Next.f kj5 l0_0 l0_1 t376).bind fun t379 => ((spec_l03Lens.f kj5 t376 t379 a2).bind fun t382 => (spec_LongestNumber.l0 kj5 a2 t376 t379 t382 (-1) a1)))) = some (r1, r2, r3) := by rw [if_neg (show ¬ (false = true) by decide)] at H; exact H
     clear H
     have H := H1
     clear H1
     replace H := Option.bind_eq_some_iff.mp H
     obtain ⟨t376, A140, H⟩ := H
     (try dsimp only at H)
     have A14 := Aside0.mk A140
     clear A140
     replace H := Option.bind_eq_some_iff.mp H
     obtain ⟨t379, A150, H⟩ := H
     (try dsimp only at H)
     have A15 := Aside0.mk A150
     clear A150
     replace H := Option.bind_eq_some_iff.mp H
     obtain ⟨t382, A160, H⟩ := H
     (try dsimp only at H)
     have A16 := Aside0.mk A160
     clear A160
     have H' := Aside0.mk H
     clear H
     go_wp2_with (first | ((with_reducible refine gate_callee (f := 25) rfl ?_); refine goesL_ (some 30) rfl rfl Try.func25 (by kernel_rfl) rfl #[.pointer (some ⟨gb372, 0, none⟩)] rfl (by (try simp only [List.map_toArray, List.map_cons, List.map_nil]); first | done | rfl | (simp only [List.length_drop, List.length_take]; rfl)) ?_; (with_reducible refine (spec_l03Pieces.calls kj5 gb372 l0_0 l0_1 t376 w _ ?side1 ?side2 A14.out).mono ?_); (case side1 => repeat (first | (with_reducible first | exact HI372.out | apply IsS31.alloc | apply IsS31.drewN | apply IsS31.drew) | exact HI372.out)); (case side2 => repeat (first | (with_reducible first | exact HB.out | apply bwA | apply pwN | apply bw1 | refine below_set ?_ (IsS31.ge HI372.out)) | exact HB.out)); rintro e w17 ⟨v377, rfl, ho0, hi, hb, hk⟩; refine ⟨_, rfl, ?_⟩; have n0_ := Aside0.mk (Kd.R_lower ho0 (below_size (by repeat (first | (with_reducible first | exact HB.out | apply bwA | apply pwN | apply bw1 | refine below_set ?_ (IsS31.ge HI372.out)) | exact HB.out)))); have n1_ := Aside0.mk (hb); have n2_ := Aside0.mk (hi); clear HB; clear HI372; have HO378 := n0_; have HB := n1_; have HI372 := n2_; clear n0_ n1_ n2_; (try clear hb); (try clear hb2); (try clear hk); (try clear hi); (try clear ho0); obtain ⟨Ao18, co18, eo18⟩ := Kd.R_slice HO378.out; subst eo18) | ((with_reducible refine gate_callee (f := 26) rfl ?_); refine goesL_ (some 32) rfl rfl Try.func26 (by kernel_rfl) rfl #[.pointer (some ⟨gb372, 0, none⟩), .slice Ao18 t376.length co18] rfl (by (try simp only [List.map_toArray, List.map_cons, List.map_nil]); first | done | rfl | (simp only [List.length_drop, List.length_take]; rfl)) ?_; (with_reducible refine (spec_l03Next.calls kj5 gb372 l0_0 l0_1 _ _ t376 t379 w _ ?side1 ?side2 ?side3 ?side4 A15.out).mono ?_); (case side1 => repeat (first | (with_reducible first | exact HI372.out | apply IsS31.alloc | apply IsS31.drewN | apply IsS31.drew) | exact HI372.out)); (case side2 => repeat (first | (with_reducible first | exact HB.out | apply bwA | apply pwN | apply bw1 | refine below_set ?_ (IsS31.ge HI372.out)) | exact HB.out)); (case side3 => exact Kd.C_foot_own (IsS31.apart (show IsS31 w _ gb372 l0_0 l0_1 from by repeat (first | (with_reducible first | exact HI372.out | apply IsS31.alloc | apply IsS31.drewN | apply IsS31.drew) | exact HI372.out)) (by (with_reducible repeat (first | apply Kd.R_alloc | apply Kd.R_drewN | apply Kd.R_drew)); exact HO378.out) (by decide)) (fun _ h_ => h_.2)); (case side4 => exact (Kd.R_reads' HO378.out).2.1); rintro e w19 ⟨v380, rfl, ho0, hi, hb, hk⟩; refine ⟨_, rfl, ?_⟩; have n0_ := Aside0.mk (Kd.R_mono (Kd.R_keep (IsS31.apart (show IsS31 w _ gb372 l0_0 l0_1 from by repeat (first | (with_reducible first | exact HI372.out | apply IsS31.alloc | apply IsS31.drewN | apply IsS31.drew) | exact HI372.out)) (by (with_reducible repeat (first | apply Kd.R_alloc | apply Kd.R_drewN | apply Kd.R_drew)); exact HO378.out) (by decide)) hk (fun _ h => h.2)) (fun _ h => h.1)); have n1_ := Aside0.mk (Kd.S_lower ho0 (below_size (by repeat (first | (with_reducible first | exact HB.out | apply bwA | apply pwN | apply bw1 | refine below_set ?_ (IsS31.ge HI372.out)) | exact HB.out)))); have n2_ := Aside0.mk (hb); have n3_ := Aside0.mk (hi); clear HO378; clear HB; clear HI372; have HO378 := n0_; have HO381 := n1_; have HB := n2_; have HI372 := n3_; clear n0_ n1_ n2_ n3_; (try clear hb); (try clear hb2); (try clear hk); (try clear hi); (try clear ho0); obtain ⟨Ao20, co20, eo20⟩ := Kd.S_slice HO381.out; subst eo20) | ((with_reducible refine gate_callee (f := 39) rfl ?_); refine goesL_ (some 36) rfl rfl Try.func39 (by kernel_rfl) rfl #[.slice Ao18 t376.length co18, .slice Ao20 t379.length co20, .int .i64 a2] rfl (by (try simp only [List.map_toArray, List.map_cons, List.map_nil]); first | done | rfl | (simp only [List.length_drop, List.length_take]; rfl)) ?_; (with_reducible refine (spec_l03Lens.calls kj5 _ _ t376 _ _ t379 a2 t382 _ ?side1 ?side2 ?side3 ?side4 A16.out).mono ?_); (case side1 => repeat (first | exact (Kd.R_reads' HO378.out).2.2 | (with_reducible refine Kd.C_alloc ?_ _) | (with_reducible refine Kd.C_drewN ?_ _) | (with_reducible refine Kd.C_drew ?_))); (case side2 => exact (Kd.R_reads' HO378.out).2.1); (case side3 => repeat (first | exact (Kd.S_reads' HO381.out).2.2 | (with_reducible refine Kd.C_alloc ?_ _) | (with_reducible refine Kd.C_drewN ?_ _) | (with_reducible refine Kd.C_drew ?_))); (case side4 => exact (Kd.S_reads' HO381.out).2.1); rintro e w21 ⟨v383, rfl, ho0, hb⟩; refine ⟨_, rfl, ?_⟩; have n0_ := Aside0.mk (Kd.R_below (by (with_reducible repeat (first | apply Kd.R_alloc | apply Kd.R_drewN | apply Kd.R_drew)); exact HO378.out) hb); have n1_ := Aside0.mk (Kd.S_below (by (with_reducible repeat (first | apply Kd.S_alloc | apply Kd.S_drewN | apply Kd.S_drew)); exact HO381.out) hb); have n2_ := Aside0.mk (Kd.S_lower ho0 (below_size (by repeat (first | (with_reducible first | exact HB.out | apply bwA | apply pwN | apply bw1 | refine below_set ?_ (IsS31.ge HI372.out)) | exact HB.out)))); have n3_ := Aside0.mk (IsS31.below (by repeat (first | (with_reducible first | exact HI372.out | apply IsS31.alloc | apply IsS31.drewN | apply IsS31.drew) | exact HI372.out)) hb); have n4_ := Aside0.mk (below_step (by repeat (first | (with_reducible first | exact HB.out | apply bwA | apply pwN | apply bw1 | refine below_set ?_ (IsS31.ge HI372.out)) | exact HB.out)) hb); clear HO378; clear HO381; clear HI372; clear HB; have HO378 := n0_; have HO381 := n1_; have HO384 := n2_; have HI372 := n3_; have HB := n4_; clear n0_ n1_ n2_ n3_ n4_; (try clear hb); (try clear hb2); (try clear hk); (try clear hi); (try clear ho0)))
     go_loopg [12, 13] kj5 (fun kq v12 v13 w' => ∃ (x12_2 : Int) (x13_2 : Int), v12 = .int .i64 x12_2 ∧ v13 = .int .i64 x13_2 ∧ Aside0 (spec_LongestNumber.l0 kq a2 t376 t379 t382 x12_2 x13_2 = some (r1, r2, r3)) ∧ Aside0 (kq ≤ kj5) ∧ Aside0 (Kd.R k108 108 w' w.heap.size (fun _ => True) (.slice Ao18 t376.length co18) t376) ∧ Aside0 (Kd.S (Kd.slice 4 Kd.bool) 109 w' w.heap.size (fun _ => True) (.slice Ao20 t379.length co20) t379) ∧ Aside0 (Kd.S (Kd.slice 2 (Kd.int .i64)) 64 w' w.heap.size (fun _ => True) v383 t382) ∧ Aside0 (IsS31 w w' gb372 l0_0 l0_1) ∧ Aside0 (Below w.heap.size w w'))
     case atStart => exact ⟨((-1)), (a1), (by first | rfl | (simp; done) | (simp [*]; done)), (by first | rfl | (simp; done) | (simp [*]; done)), H', ⟨Nat.le_refl _⟩, ⟨by (with_reducible repeat (first | apply Kd.R_alloc | apply Kd.R_drewN | apply Kd.R_drew)); exact HO378.out⟩, ⟨by (with_reducible repeat (first | apply Kd.S_alloc | apply Kd.S_drewN | apply Kd.S_drew)); exact HO381.out⟩, ⟨by (with_reducible repeat (first | apply Kd.S_alloc | apply Kd.S_drewN | apply Kd.S_drew)); exact HO384.out⟩, ⟨by repeat (first | (with_reducible first | exact HI372.out | apply IsS31.alloc | apply IsS31.drewN | apply IsS31.drew) | exact HI372.out)⟩, ⟨by repeat (first | (with_reducible first | exact HB.out | apply bwA | apply pwN | apply bw1 | refine below_set ?_ (IsS31.ge HI372.out)) | exact HB.out)⟩⟩
     case round =>
      clear H'
      try clear c1
      try clear c2
      try clear p2
      try clear c3
      try clear c5
      try clear c10
      try clear c12
      try clear c13
      try clear c14
      try clear p2
      obtain ⟨x12_2, x13_2, rfl, rfl, HA, HK2, HO_9, HO_10, HO_11, HI372, HB⟩ := hrel
      cases gk with
      | zero => exact absurd HA.out (by simp [spec_LongestNumber.l0])
      | succ k2 =>
       have H := HA.out
       clear HA
       simp only [spec_LongestNumber.l0] at H
       by_cases c22 : x13_2 ≤ a2
       ·rw [if_pos c22] at H
        have c22b0 : decide (x13_2 ≤ a2) = true := decide_eq_true c22
        clear c22
        by_cases c23 : 0 ≤ x13_2
        ·rw [if_pos c23] at H
         have c23b0 : decide (0 ≤ x13_2) = true := decide_eq_true c23
         clear c23
         by_cases c24 : x13_2 < (t382.length : Int)
         ·rw [if_pos c24] at H
          have c24b0 : decide (x13_2 < (t382.length : Int)) = true := decide_eq_true c24
          clear c24
          by_cases c25 : 0 ≤ (t376.length : Int)
          ·rw [if_pos c25] at H
           have c25b0 : decide (0 ≤ (t376.length : Int)) = true := decide_eq_true c25
           have c25b1 : decide (0 ≤ t376.length) = true := decide_eq_true (by omega)
           clear c25
           by_cases c26 : (t376.length : Int) < ((rd_L12 t382 x13_2).length : Int)
           ·rw [if_pos c26] at H
            have c26b0 : decide ((t376.length : Int) < ((rd_L12 t382 x13_2).length : Int)) = true := decide_eq_true c26
            have c26b1 : decide (t376.length < (rd_L12 t382 x13_2).length) = true := decide_eq_true (Int.ofNat_lt.mp c26)
            clear c26
            by_cases c27 : (rd (rd_L12 t382 x13_2) (t376.length : Int)) ≤ 16
            ·rw [if_pos c27] at H
             have c27b0 : decide ((rd (rd_L12 t382 x13_2) (t376.length : Int)) ≤ 16) = true := decide_eq_true c27
             clear c27
             by_cases c28 : x12_2 < 0
             ·rw [if_pos c28] at H
              have c28b0 : decide (x12_2 < 0) = true := decide_eq_true c28
              clear c28
              have H' := Aside0.mk H
              clear H
              obtain ⟨Ao29, co29, eo29⟩ := Kd.S_slice HO_11.out
              subst eo29
              have p385 : 0 ≤ (x13_2 : Int) := of_decide_eq_true (by first | (with_reducible assumption) | assumption)
              have q385 : x13_2 < (t382.length : Int) := of_decide_eq_true (by first | (with_reducible assumption) | assumption)
              obtain ⟨ad385, A385_0, c385_0, e385, hx385_0, hl385_0, hi385_0⟩ := at_L12 (Kd.S_reads' HO_11.out).2.2 x13_2 p385 q385
              cases e385
              obtain ⟨ce385, hce385, hMe385, hcc385⟩ := Kd.S_get HO_11.out [] x13_2 p385 (by first | exact q385 | exact of_decide_eq_true (by first | (with_reducible assumption) | assumption) | (have e_ := (Kd.S_reads' HO_11.out).1; omega))
              obtain ⟨ve385_0, rfl, ge385_0⟩ := hMe385
              have hv385_0 := hcc385 0 _ rfl
              rw [Nat.add_zero, show ((Kd.slice 2 (Kd.int .i64))).sz = 1 from rfl, Nat.mul_one] at hv385_0
              replace hv385_0 := Option.some.inj (hv385_0.symm.trans hx385_0)
              rw [hv385_0] at ge385_0
              have HL385_0 := Aside0.mk (show Kd.R (Kd.int .i64) 2 _ _ _ _ (rd_L12 t382 x13_2) from ge385_0)
              clear hv385_0 ge385_0
              clear hcc385 hce385
              have HR385_0 := Aside0.mk hi385_0
              have HC385_0 := Aside0.mk hl385_0
              clear hi385_0 hl385_0
              replace p385 := eq_true p385
              replace q385 := eq_true q385
              have p386 : 0 ≤ ((t376.length : Int) : Int) := of_decide_eq_true (by first | (with_reducible assumption) | assumption)
              have q386 : (t376.length : Int) < ((rd_L12 t382 x13_2).length : Int) := of_decide_eq_true (by first | (with_reducible assumption) | assumption)
              obtain ⟨ad386, e386, hx386_0⟩ := Kd.at_int (by repeat (first | (with_reducible exact HR385_0.out) | (with_reducible refine Kd.C_alloc ?_ _) | (with_reducible refine Kd.C_drewN ?_ _) | (with_reducible refine Kd.C_drew ?_) | exact HR385_0.out)) (t376.length : Int) p386 q386
              cases e386
              (try simp only [Go.IntWalk.toNatUp] at hx386_0)
              replace p386 := eq_true p386
              replace q386 := eq_true q386
              go_wp2
              go_roundg k2
              case measure => have := HJ5.out; have := HK2.out; omega
              case rel => exact ⟨(x13_2), (wrap64 (x13_2 + 1)), (by first | rfl | (simp; done) | (simp [*]; done)), (by first | rfl | (simp; done) | (simp [*]; done)), H', ⟨by have := HJ5.out; have := HK2.out; omega⟩, ⟨by (with_reducible repeat (first | apply Kd.R_alloc | apply Kd.R_drewN | apply Kd.R_drew)); exact HO_9.out⟩, ⟨by (with_reducible repeat (first | apply Kd.S_alloc | apply Kd.S_drewN | apply Kd.S_drew)); exact HO_10.out⟩, ⟨by (with_reducible repeat (first | apply Kd.S_alloc | apply Kd.S_drewN | apply Kd.S_drew)); exact HO_11.out⟩, ⟨by repeat (first | (with_reducible first | exact HI372.out | apply IsS31.alloc | apply IsS31.drewN | apply IsS31.drew) | exact HI372.out)⟩, ⟨by repeat (first | (with_reducible first | exact HB.out | apply bwA | apply pwN | apply bw1 | refine below_set ?_ (IsS31.ge HI372.out)) | exact HB.out)⟩⟩
             ·rw [if_neg c28] at H
              have c28b0 : decide (x12_2 < 0) = false := decide_eq_false c28
              clear c28
              by_cases c30 : 0 ≤ x12_2
              ·rw [if_pos c30] at H
               have c30b0 : decide (0 ≤ x12_2) = true := decide_eq_true c30
               clear c30
               by_cases c31 : x12_2 < (t382.length : Int)
               ·rw [if_pos c31] at H
                have c31b0 : decide (x12_2 < (t382.length : Int)) = true := decide_eq_true c31
                clear c31
                by_cases c32 : (t376.length : Int) < ((rd_L12 t382 x12_2).length : Int)
                ·rw [if_pos c32] at H
                 have c32b0 : decide ((t376.length : Int) < ((rd_L12 t382 x12_2).length : Int)) = true := decide_eq_true c32
                 have c32b1 : decide (t376.length < (rd_L12 t382 x12_2).length) = true := decide_eq_true (Int.ofNat_lt.mp c32)
                 clear c32
                 by_cases c33 : (rd (rd_L12 t382 x13_2) (t376.length : Int)) > (rd (rd_L12 t382 x12_2) (t376.length : Int))
                 ·rw [if_pos c33] at H
                  have c33b0 : decide ((rd (rd_L12 t382 x12_2) (t376.length : Int)) < (rd (rd_L12 t382 x13_2) (t376.length : Int))) = true := decide_eq_true c33
                  clear c33
                  have H' := Aside0.mk H
                  clear H
                  obtain ⟨Ao34, co34, eo34⟩ := Kd.S_slice HO_11.out
                  subst eo34
                  have p385 : 0 ≤ (x13_2 : Int) := of_decide_eq_true (by first | (with_reducible assumption) | assumption)
                  have q385 : x13_2 < (t382.length : Int) := of_decide_eq_true (by first | (with_reducible assumption) | assumption)
                  obtain ⟨ad385, A385_0, c385_0, e385, hx385_0, hl385_0, hi385_0⟩ := at_L12 (Kd.S_reads' HO_11.out).2.2 x13_2 p385 q385
                  cases e385
                  obtain ⟨ce385, hce385, hMe385, hcc385⟩ := Kd.S_get HO_11.out [] x13_2 p385 (by first | exact q385 | exact of_decide_eq_true (by first | (with_reducible assumption) | assumption) | (have e_ := (Kd.S_reads' HO_11.out).1; omega))
                  obtain ⟨ve385_0, rfl, ge385_0⟩ := hMe385
                  have hv385_0 := hcc385 0 _ rfl
                  rw [Nat.add_zero, show ((Kd.slice 2 (Kd.int .i64))).sz = 1 from rfl, Nat.mul_one] at hv385_0
                  replace hv385_0 := Option.some.inj (hv385_0.symm.trans hx385_0)
                  rw [hv385_0] at ge385_0
                  have HL385_0 := Aside0.mk (show Kd.R (Kd.int .i64) 2 _ _ _ _ (rd_L12 t382 x13_2) from ge385_0)
                  clear hv385_0 ge385_0
                  clear hcc385 hce385
                  have HR385_0 := Aside0.mk hi385_0
                  have HC385_0 := Aside0.mk hl385_0
                  clear hi385_0 hl385_0
                  replace p385 := eq_true p385
                  replace q385 := eq_true q385
                  have p386 : 0 ≤ ((t376.length : Int) : Int) := of_decide_eq_true (by first | (with_reducible assumption) | assumption)
                  have q386 : (t376.length : Int) < ((rd_L12 t382 x13_2).length : Int) := of_decide_eq_true (by first | (with_reducible assumption) | assumption)
                  obtain ⟨ad386, e386, hx386_0⟩ := Kd.at_int (by repeat (first | (with_reducible exact HR385_0.out) | (with_reducible refine Kd.C_alloc ?_ _) | (with_reducible refine Kd.C_drewN ?_ _) | (with_reducible refine Kd.C_drew ?_) | exact HR385_0.out)) (t376.length : Int) p386 q386
                  cases e386
                  (try simp only [Go.IntWalk.toNatUp] at hx386_0)
                  replace p386 := eq_true p386
                  replace q386 := eq_true q386
                  have p387 : 0 ≤ (x12_2 : Int) := of_decide_eq_true (by first | (with_reducible assumption) | assumption)
                  have q387 : x12_2 < (t382.length : Int) := of_decide_eq_true (by first | (with_reducible assumption) | assumption)
                  obtain ⟨ad387, A387_0, c387_0, e387, hx387_0, hl387_0, hi387_0⟩ := at_L12 (Kd.S_reads' HO_11.out).2.2 x12_2 p387 q387
                  obtain rfl : ad385 = ad387 := (by injection e387)
                  obtain ⟨ce387, hce387, hMe387, hcc387⟩ := Kd.S_get HO_11.out [] x12_2 p387 (by first | exact q387 | exact of_decide_eq_true (by first | (with_reducible assumption) | assumption) | (have e_ := (Kd.S_reads' HO_11.out).1; omega))
                  obtain ⟨ve387_0, rfl, ge387_0⟩ := hMe387
                  have hv387_0 := hcc387 0 _ rfl
                  rw [Nat.add_zero, show ((Kd.slice 2 (Kd.int .i64))).sz = 1 from rfl, Nat.mul_one] at hv387_0
                  replace hv387_0 := Option.some.inj (hv387_0.symm.trans hx387_0)
                  rw [hv387_0] at ge387_0
                  have HL387_0 := Aside0.mk (show Kd.R (Kd.int .i64) 2 _ _ _ _ (rd_L12 t382 x12_2) from ge387_0)
                  clear hv387_0 ge387_0
                  clear hcc387 hce387
                  have HR387_0 := Aside0.mk hi387_0
                  have HC387_0 := Aside0.mk hl387_0
                  clear hi387_0 hl387_0
                  replace p387 := eq_true p387
                  replace q387 := eq_true q387
                  have p388 : 0 ≤ ((t376.length : Int) : Int) := of_decide_eq_true (by first | (with_reducible assumption) | assumption)
                  have q388 : (t376.length : Int) < ((rd_L12 t382 x12_2).length : Int) := of_decide_eq_true (by first | (with_reducible assumption) | assumption)
                  obtain ⟨ad388, e388, hx388_0⟩ := Kd.at_int (by repeat (first | (with_reducible exact HR387_0.out) | (with_reducible refine Kd.C_alloc ?_ _) | (with_reducible refine Kd.C_drewN ?_ _) | (with_reducible refine Kd.C_drew ?_) | exact HR387_0.out)) (t376.length : Int) p388 q388
                  cases e388
                  (try simp only [Go.IntWalk.toNatUp] at hx388_0)
                  replace p388 := eq_true p388
                  replace q388 := eq_true q388
                  go_wp2
                  go_roundg k2
                  case measure => have := HJ5.out; have := HK2.out; omega
                  case rel => exact ⟨(x13_2), (wrap64 (x13_2 + 1)), (by first | rfl | (simp; done) | (simp [*]; done)), (by first | rfl | (simp; done) | (simp [*]; done)), H', ⟨by have := HJ5.out; have := HK2.out; omega⟩, ⟨by (with_reducible repeat (first | apply Kd.R_alloc | apply Kd.R_drewN | apply Kd.R_drew)); exact HO_9.out⟩, ⟨by (with_reducible repeat (first | apply Kd.S_alloc | apply Kd.S_drewN | apply Kd.S_drew)); exact HO_10.out⟩, ⟨by (with_reducible repeat (first | apply Kd.S_alloc | apply Kd.S_drewN | apply Kd.S_drew)); exact HO_11.out⟩, ⟨by repeat (first | (with_reducible first | exact HI372.out | apply IsS31.alloc | apply IsS31.drewN | apply IsS31.drew) | exact HI372.out)⟩, ⟨by repeat (first | (with_reducible first | exact HB.out | apply bwA | apply pwN | apply bw1 | refine below_set ?_ (IsS31.ge HI372.out)) | exact HB.out)⟩⟩
                 ·rw [if_neg c33] at H
                  have c33b0 : decide ((rd (rd_L12 t382 x12_2) (t376.length : Int)) < (rd (rd_L12 t382 x13_2) (t376.length : Int))) = false := decide_eq_false c33
                  clear c33
                  have H' := Aside0.mk H
                  clear H
                  obtain ⟨Ao35, co35, eo35⟩ := Kd.S_slice HO_11.out
                  subst eo35
                  have p385 : 0 ≤ (x13_2 : Int) := of_decide_eq_true (by first | (with_reducible assumption) | assumption)
                  have q385 : x13_2 < (t382.length : Int) := of_decide_eq_true (by first | (with_reducible assumption) | assumption)
                  obtain ⟨ad385, A385_0, c385_0, e385, hx385_0, hl385_0, hi385_0⟩ := at_L12 (Kd.S_reads' HO_11.out).2.2 x13_2 p385 q385
                  cases e385
                  obtain ⟨ce385, hce385, hMe385, hcc385⟩ := Kd.S_get HO_11.out [] x13_2 p385 (by first | exact q385 | exact of_decide_eq_true (by first | (with_reducible assumption) | assumption) | (have e_ := (Kd.S_reads' HO_11.out).1; omega))
                  obtain ⟨ve385_0, rfl, ge385_0⟩ := hMe385
                  have hv385_0 := hcc385 0 _ rfl
                  rw [Nat.add_zero, show ((Kd.slice 2 (Kd.int .i64))).sz = 1 from rfl, Nat.mul_one] at hv385_0
                  replace hv385_0 := Option.some.inj (hv385_0.symm.trans hx385_0)
                  rw [hv385_0] at ge385_0
                  have HL385_0 := Aside0.mk (show Kd.R (Kd.int .i64) 2 _ _ _ _ (rd_L12 t382 x13_2) from ge385_0)
                  clear hv385_0 ge385_0
                  clear hcc385 hce385
                  have HR385_0 := Aside0.mk hi385_0
                  have HC385_0 := Aside0.mk hl385_0
                  clear hi385_0 hl385_0
                  replace p385 := eq_true p385
                  replace q385 := eq_true q385
                  have p386 : 0 ≤ ((t376.length : Int) : Int) := of_decide_eq_true (by first | (with_reducible assumption) | assumption)
                  have q386 : (t376.length : Int) < ((rd_L12 t382 x13_2).length : Int) := of_decide_eq_true (by first | (with_reducible assumption) | assumption)
                  obtain ⟨ad386, e386, hx386_0⟩ := Kd.at_int (by repeat (first | (with_reducible exact HR385_0.out) | (with_reducible refine Kd.C_alloc ?_ _) | (with_reducible refine Kd.C_drewN ?_ _) | (with_reducible refine Kd.C_drew ?_) | exact HR385_0.out)) (t376.length : Int) p386 q386
                  cases e386
                  (try simp only [Go.IntWalk.toNatUp] at hx386_0)
                  replace p386 := eq_true p386
                  replace q386 := eq_true q386
                  have p387 : 0 ≤ (x12_2 : Int) := of_decide_eq_true (by first | (with_reducible assumption) | assumption)
                  have q387 : x12_2 < (t382.length : Int) := of_decide_eq_true (by first | (with_reducible assumption) | assumption)
                  obtain ⟨ad387, A387_0, c387_0, e387, hx387_0, hl387_0, hi387_0⟩ := at_L12 (Kd.S_reads' HO_11.out).2.2 x12_2 p387 q387
                  obtain rfl : ad385 = ad387 := (by injection e387)
                  obtain ⟨ce387, hce387, hMe387, hcc387⟩ := Kd.S_get HO_11.out [] x12_2 p387 (by first | exact q387 | exact of_decide_eq_true (by first | (with_reducible assumption) | assumption) | (have e_ := (Kd.S_reads' HO_11.out).1; omega))
                  obtain ⟨ve387_0, rfl, ge387_0⟩ := hMe387
                  have hv387_0 := hcc387 0 _ rfl
                  rw [Nat.add_zero, show ((Kd.slice 2 (Kd.int .i64))).sz = 1 from rfl, Nat.mul_one] at hv387_0
                  replace hv387_0 := Option.some.inj (hv387_0.symm.trans hx387_0)
                  rw [hv387_0] at ge387_0
                  have HL387_0 := Aside0.mk (show Kd.R (Kd.int .i64) 2 _ _ _ _ (rd_L12 t382 x12_2) from ge387_0)
                  clear hv387_0 ge387_0
                  clear hcc387 hce387
                  have HR387_0 := Aside0.mk hi387_0
                  have HC387_0 := Aside0.mk hl387_0
                  clear hi387_0 hl387_0
                  replace p387 := eq_true p387
                  replace q387 := eq_true q387
                  have p388 : 0 ≤ ((t376.length : Int) : Int) := of_decide_eq_true (by first | (with_reducible assumption) | assumption)
                  have q388 : (t376.length : Int) < ((rd_L12 t382 x12_2).length : Int) := of_decide_eq_true (by first | (with_reducible assumption) | assumption)
                  obtain ⟨ad388, e388, hx388_0⟩ := Kd.at_int (by repeat (first | (with_reducible exact HR387_0.out) | (with_reducible refine Kd.C_alloc ?_ _) | (with_reducible refine Kd.C_drewN ?_ _) | (with_reducible refine Kd.C_drew ?_) | exact HR387_0.out)) (t376.length : Int) p388 q388
                  cases e388
                  (try simp only [Go.IntWalk.toNatUp] at hx388_0)
                  replace p388 := eq_true p388
                  replace q388 := eq_true q388
                  go_wp2
                  go_roundg k2
                  case measure => have := HJ5.out; have := HK2.out; omega
                  case rel => exact ⟨(x12_2), (wrap64 (x13_2 + 1)), (by first | rfl | (simp; done) | (simp [*]; done)), (by first | rfl | (simp; done) | (simp [*]; done)), H', ⟨by have := HJ5.out; have := HK2.out; omega⟩, ⟨by (with_reducible repeat (first | apply Kd.R_alloc | apply Kd.R_drewN | apply Kd.R_drew)); exact HO_9.out⟩, ⟨by (with_reducible repeat (first | apply Kd.S_alloc | apply Kd.S_drewN | apply Kd.S_drew)); exact HO_10.out⟩, ⟨by (with_reducible repeat (first | apply Kd.S_alloc | apply Kd.S_drewN | apply Kd.S_drew)); exact HO_11.out⟩, ⟨by repeat (first | (with_reducible first | exact HI372.out | apply IsS31.alloc | apply IsS31.drewN | apply IsS31.drew) | exact HI372.out)⟩, ⟨by repeat (first | (with_reducible first | exact HB.out | apply bwA | apply pwN | apply bw1 | refine below_set ?_ (IsS31.ge HI372.out)) | exact HB.out)⟩⟩
                ·rw [if_neg c32] at H
                 exact absurd H (by simp)
               ·rw [if_neg c31] at H
                exact absurd H (by simp)
              ·rw [if_neg c30] at H
               exact absurd H (by simp)
            ·rw [if_neg c27] at H
             have c27b0 : decide ((rd (rd_L12 t382 x13_2) (t376.length : Int)) ≤ 16) = false := decide_eq_false c27
             clear c27
             have H' := Aside0.mk H
             clear H
             obtain ⟨Ao36, co36, eo36⟩ := Kd.S_slice HO_11.out
             subst eo36
             have p385 : 0 ≤ (x13_2 : Int) := of_decide_eq_true (by first | (with_reducible assumption) | assumption)
             have q385 : x13_2 < (t382.length : Int) := of_decide_eq_true (by first | (with_reducible assumption) | assumption)
             obtain ⟨ad385, A385_0, c385_0, e385, hx385_0, hl385_0, hi385_0⟩ := at_L12 (Kd.S_reads' HO_11.out).2.2 x13_2 p385 q385
             cases e385
             obtain ⟨ce385, hce385, hMe385, hcc385⟩ := Kd.S_get HO_11.out [] x13_2 p385 (by first | exact q385 | exact of_decide_eq_true (by first | (with_reducible assumption) | assumption) | (have e_ := (Kd.S_reads' HO_11.out).1; omega))
             obtain ⟨ve385_0, rfl, ge385_0⟩ := hMe385
             have hv385_0 := hcc385 0 _ rfl
             rw [Nat.add_zero, show ((Kd.slice 2 (Kd.int .i64))).sz = 1 from rfl, Nat.mul_one] at hv385_0
             replace hv385_0 := Option.some.inj (hv385_0.symm.trans hx385_0)
             rw [hv385_0] at ge385_0
             have HL385_0 := Aside0.mk (show Kd.R (Kd.int .i64) 2 _ _ _ _ (rd_L12 t382 x13_2) from ge385_0)
             clear hv385_0 ge385_0
             clear hcc385 hce385
             have HR385_0 := Aside0.mk hi385_0
             have HC385_0 := Aside0.mk hl385_0
             clear hi385_0 hl385_0
             replace p385 := eq_true p385
             replace q385 := eq_true q385
             have p386 : 0 ≤ ((t376.length : Int) : Int) := of_decide_eq_true (by first | (with_reducible assumption) | assumption)
             have q386 : (t376.length : Int) < ((rd_L12 t382 x13_2).length : Int) := of_decide_eq_true (by first | (with_reducible assumption) | assumption)
             obtain ⟨ad386, e386, hx386_0⟩ := Kd.at_int (by repeat (first | (with_reducible exact HR385_0.out) | (with_reducible refine Kd.C_alloc ?_ _) | (with_reducible refine Kd.C_drewN ?_ _) | (with_reducible refine Kd.C_drew ?_) | exact HR385_0.out)) (t376.length : Int) p386 q386
             cases e386
             (try simp only [Go.IntWalk.toNatUp] at hx386_0)
             replace p386 := eq_true p386
             replace q386 := eq_true q386
             go_wp2
             go_roundg k2
             case measure => have := HJ5.out; have := HK2.out; omega
             case rel => exact ⟨(x12_2), (wrap64 (x13_2 + 1)), (by first | rfl | (simp; done) | (simp [*]; done)), (by first | rfl | (simp; done) | (simp [*]; done)), H', ⟨by have := HJ5.out; have := HK2.out; omega⟩, ⟨by (with_reducible repeat (first | apply Kd.R_alloc | apply Kd.R_drewN | apply Kd.R_drew)); exact HO_9.out⟩, ⟨by (with_reducible repeat (first | apply Kd.S_alloc | apply Kd.S_drewN | apply Kd.S_drew)); exact HO_10.out⟩, ⟨by (with_reducible repeat (first | apply Kd.S_alloc | apply Kd.S_drewN | apply Kd.S_drew)); exact HO_11.out⟩, ⟨by repeat (first | (with_reducible first | exact HI372.out | apply IsS31.alloc | apply IsS31.drewN | apply IsS31.drew) | exact HI372.out)⟩, ⟨by repeat (first | (with_reducible first | exact HB.out | apply bwA | apply pwN | apply bw1 | refine below_set ?_ (IsS31.ge HI372.out)) | exact HB.out)⟩⟩
           ·rw [if_neg c26] at H
            exact absurd H (by simp)
          ·rw [if_neg c25] at H
           exact absurd H (by simp)
         ·rw [if_neg c24] at H
          exact absurd H (by simp)
        ·rw [if_neg c23] at H
         exact absurd H (by simp)
       ·rw [if_neg c22] at H
        have c22b0 : decide (x13_2 ≤ a2) = false := decide_eq_false c22
        clear c22
        by_cases c37 : x12_2 < 0
        ·rw [if_pos c37] at H
         have c37b0 : decide (x12_2 < 0) = true := decide_eq_true c37
         clear c37
         simp only [Option.some.injEq, Prod.mk.injEq] at H
         obtain ⟨rfl, rfl, rfl⟩ := H
         go_wp2
         go_ret3
         exact ⟨by first | rfl | (simp [errW_none, errW_some, i64_w]; done) | (simp [errW_none, errW_some] <;> rfl) | (simp [*, errW_none, errW_some] <;> rfl), by repeat (first | (with_reducible first | exact HB.out | apply bwA | apply pwN | apply bw1 | refine below_set ?_ (IsS31.ge HI372.out)) | exact HB.out)⟩
        ·rw [if_neg c37] at H
         have c37b0 : decide (x12_2 < 0) = false := decide_eq_false c37
         clear c37
         replace H := Option.bind_eq_some_iff.mp H
         obtain ⟨t389, A380, H⟩ := H
         (try dsimp only at H)
         have A38 := Aside0.mk A380
         clear A380
         simp only [Option.some.injEq, Prod.mk.injEq] at H
         obtain ⟨rfl, rfl, rfl⟩ := H
         obtain ⟨Ao39, co39, eo39⟩ := Kd.S_slice HO_11.out
         subst eo39
         go_wp2_with (first | ((with_reducible refine gate_callee (f := 40) rfl ?_); refine goesL_ (some 79) rfl rfl Try.func40 (by kernel_rfl) rfl #[.slice Ao18 t376.length co18, .slice Ao20 t379.length co20, .slice Ao39 t382.length co39, .int .i64 x12_2, .int .i64 (t376.length : Int)] rfl (by (try simp only [List.map_toArray, List.map_cons, List.map_nil]); first | done | rfl | (simp only [List.length_drop, List.length_take]; rfl)) ?_; (with_reducible refine (spec_l03First.calls k2 _ _ t376 _ _ t379 _ _ t382 x12_2 (t376.length : Int) t389 _ ?side1 ?side2 ?side3 ?side4 ?side5 ?side6 A38.out).mono ?_); (case side1 => repeat (first | exact (Kd.R_reads' HO_9.out).2.2 | (with_reducible refine Kd.C_alloc ?_ _) | (with_reducible refine Kd.C_drewN ?_ _) | (with_reducible refine Kd.C_drew ?_))); (case side2 => exact (Kd.R_reads' HO_9.out).2.1); (case side3 => repeat (first | exact (Kd.S_reads' HO_10.out).2.2 | (with_reducible refine Kd.C_alloc ?_ _) | (with_reducible refine Kd.C_drewN ?_ _) | (with_reducible refine Kd.C_drew ?_))); (case side4 => exact (Kd.S_reads' HO_10.out).2.1); (case side5 => repeat (first | exact (Kd.S_reads' HO_11.out).2.2 | (with_reducible refine Kd.C_alloc ?_ _) | (with_reducible refine Kd.C_drewN ?_ _) | (with_reducible refine Kd.C_drew ?_))); (case side6 => exact (Kd.S_reads' HO_11.out).2.1); rintro e w40 ⟨rfl, hb⟩; refine ⟨_, rfl, ?_⟩; have n0_ := Aside0.mk (Kd.R_below (by (with_reducible repeat (first | apply Kd.R_alloc | apply Kd.R_drewN | apply Kd.R_drew)); exact HO_9.out) hb); have n1_ := Aside0.mk (Kd.S_below (by (with_reducible repeat (first | apply Kd.S_alloc | apply Kd.S_drewN | apply Kd.S_drew)); exact HO_10.out) hb); have n2_ := Aside0.mk (Kd.S_below (by (with_reducible repeat (first | apply Kd.S_alloc | apply Kd.S_drewN | apply Kd.S_drew)); exact HO_11.out) hb); have n3_ := Aside0.mk (IsS31.below (by repeat (first | (with_reducible first | exact HI372.out | apply IsS31.alloc | apply IsS31.drewN | apply IsS31.drew) | exact HI372.out)) hb); have n4_ := Aside0.mk (below_step (by repeat (first | (with_reducible first | exact HB.out | apply bwA | apply pwN | apply bw1 | refine below_set ?_ (IsS31.ge HI372.out)) | exact HB.out)) hb); clear HO_9; clear HO_10; clear HO_11; clear HI372; clear HB; have HO_9 := n0_; have HO_10 := n1_; have HO_11 := n2_; have HI372 := n3_; have HB := n4_; clear n0_ n1_ n2_ n3_ n4_; (try clear hb); (try clear hb2); (try clear hk); (try clear hi)))
         go_ret3
         exact ⟨by first | rfl | (simp [errW_none, errW_some, i64_w]; done) | (simp [errW_none, errW_some] <;> rfl) | (simp [*, errW_none, errW_some] <;> rfl), by repeat (first | (with_reducible first | exact HB.out | apply bwA | apply pwN | apply bw1 | refine below_set ?_ (IsS31.ge HI372.out)) | exact HB.out)⟩
 ·replace c5 := Bool.eq_false_iff.mpr c5
  subst c5
  have H1 : (some (0, (⟨#[]⟩ : ByteArray), 1)) = some (r1, r2, r3) := by rw [if_neg (show ¬ (false = true) by decide)] at H; exact H
  clear H
  have H := H1
  clear H1
  simp only [Option.some.injEq, Prod.mk.injEq] at H
  obtain ⟨rfl, rfl, rfl⟩ := H
  go_enter Try.func14, Try.ntmps14
  go_wp2_with (first | ((with_reducible refine gate_dst (N := 3) rfl ?_); (try (refine gate_guard (by rfl) ?_; dsimp only)); refine box_event ?hg (N := 3) ?hd (cs := #[.slice A0_0 l0_0.length c0_0, .slice A0_1 l0_1.length c0_1]) (t := 31) ?hr ?_; (case hd => rfl); (case hg => rfl); (case hr => first | (go_simp; done) | (go_simp; rfl)); intro gb372 hg w41 hbox hb; have n0_ := Aside0.mk (below_step (by repeat (first | (with_reducible first | exact HB.out | apply bwA | apply pwN | apply bw1) | exact HB.out)) hb); have n1_ := Aside0.mk (hbox); have n2_ := Aside0.mk ((by rw [hg]; exact (below_size (by repeat (first | (with_reducible first | exact HB.out | apply bwA | apply pwN | apply bw1) | exact HB.out))) : w.heap.size ≤ gb372)); have n3_ := Aside0.mk (n2_.out); clear HB; have HB := n0_; have BK372 := n1_; have GW372 := n2_; have GE372 := n3_; clear n0_ n1_ n2_ n3_; clear hb hbox hg; have HI372 := Aside0.mk (show IsS31 w w41 gb372 l0_0 l0_1 from ⟨A0_0, c0_0, A0_1, c0_1, BK372.out, GW372.out, HR0_0.out, HR0_1.out⟩)) | ((with_reducible refine gate_callee (f := 23) rfl ?_); refine goesL_ (some 15) rfl rfl Try.func23 (by kernel_rfl) rfl #[.pointer (some ⟨gb372, 0, none⟩)] rfl (by (try simp only [List.map_toArray, List.map_cons, List.map_nil]); first | done | rfl | (simp only [List.length_drop, List.length_take]; rfl)) ?_; (with_reducible refine (spec_l03Ok.calls gb372 l0_0 l0_1 false w _ ?side1 ?side2 A4.out).mono ?_); (case side1 => repeat (first | (with_reducible first | exact HI372.out | apply IsS31.alloc | apply IsS31.drewN | apply IsS31.drew) | exact HI372.out)); (case side2 => repeat (first | (with_reducible first | exact HB.out | apply bwA | apply pwN | apply bw1 | refine below_set ?_ (IsS31.ge HI372.out)) | exact HB.out)); rintro e w42 ⟨rfl, hi, hb, hk⟩; refine ⟨_, rfl, ?_⟩; have n0_ := Aside0.mk (hb); have n1_ := Aside0.mk (hi); clear HB; clear HI372; have HB := n0_; have HI372 := n1_; clear n0_ n1_; (try clear hb); (try clear hb2); (try clear hk); (try clear hi)))
  go_ret3
  exact ⟨by first | rfl | (simp [errW_none, errW_some, i64_w]; done) | (simp [errW_none, errW_some] <;> rfl) | (simp [*, errW_none, errW_some] <;> rfl), by repeat (first | (with_reducible first | exact HB.out | apply bwA | apply pwN | apply bw1 | refine below_set ?_ (IsS31.ge HI372.out)) | exact HB.out)⟩
end Go.Proofs.Ytlepbhlbooajmaa.Q
namespace Go.Proofs.Ytlepbhlbooajmaa.Ext
end Go.Proofs.Ytlepbhlbooajmaa.Ext
namespace Go.Proofs.Ytlepbhlbooajmaa.Q
open Go.Proofs.Ytlepbhlbooajmaa.Ext
open Go.RowKit Go.Proofs.YtlepbhlbooajmaaW.PrintWords Go.Proofs.YtlepbhlbooajmaaW.PrintLast Go.Proofs.YtlepbhlbooajmaaW.PrintMore
attribute [local go_sem] max2_int min2_int max_two min_two max_three min_three max_four min_four
set_option linter.unusedVariables false
set_option linter.unusedSimpArgs false
def impl_LongestNumber.l0 : Nat → Int → List (List Int) → Int → Int → Int → List (S81) → List (List Int) → Option (Int × ByteArray × Int)
 | 0, _, _, _, _, _, _, _ => none
 | k + 1, x2, x10, x11, x12, x13, x401000, x401001 => if x13 ≤ x2 then ((impl_fewest.f x10 x13).bind fun t404 => (if t404 = 100 then (impl_LongestNumber.l0 k x2 x10 x11 x12 (wrap64 (x13 + 1)) x401000 x401001) else (if t404 > x12 then (impl_LongestNumber.l0 k x2 x10 x13 t404 (wrap64 (x13 + 1)) x401000 x401001) else (impl_LongestNumber.l0 k x2 x10 x11 x12 (wrap64 (x13 + 1)) x401000 x401001)))) else (if x12 < 0 then (some (0, (⟨#[]⟩ : ByteArray), 6)) else ((impl_builder_all.f k x401000 x401001).bind fun t405 => ((impl_builder_shortest.f k x401000 x401001 x10 x11 t405).bind fun t408 => (some (x11, t408, 0)))))
def impl_LongestNumber.f (k : Nat) (l0_0 : List (S102)) (l0_1 : List (S104)) (a1 : Int) (a2 : Int) : Option (Int × ByteArray × Int) := (impl_ValidSystem.f l0_0 l0_1).bind fun t391 => (if t391 = true then ((impl_within.f a1 0 10000).bind fun t392 => (if t392 = true then ((impl_within.f a2 0 10000).bind fun t393 => (if t393 = true then (if a1 > a2 then (some (0, (⟨#[]⟩ : ByteArray), 2)) else ((impl_builderOf.f k l0_0 l0_1).bind fun bt394 => ((impl_builder_lengths.f k bt394.1 bt394.2 a2).bind fun t401 => (impl_LongestNumber.l0 k a2 t401 0 (-1) a1 bt394.1 bt394.2)))) else (some (0, (⟨#[]⟩ : ByteArray), 2)))) else (some (0, (⟨#[]⟩ : ByteArray), 2)))) else (some (0, (⟨#[]⟩ : ByteArray), 1)))
def impl_LongestNumber.T16 : Bool × List (List Nat × List Nat) := (true, [([], []), ([], []), ([], []), ([], []), ([], []), ([4], [4]), ([1, 2, 3, 5, 5], [1, 2, 3, 5]), ([0, 6, 0], [0]), ([6, 7, 0, 1, 2, 3, 4, 5, 6, 7], [6]), ([8, 0, 1, 2, 3, 4, 5, 6, 7, 8], [])])
def impl_LongestNumber.B16 : List Nat := [0, 0, 0, 0, 0, 16, 62, 127, 255, 511]
theorem impl_LongestNumber.tab16 : rtab .any (opsOf Try.f15 16) = impl_LongestNumber.T16 := by kernel_rfl
theorem impl_LongestNumber.bits16 : waitsOk impl_LongestNumber.T16.2 impl_LongestNumber.B16 = true := by kernel_rfl
set_option maxHeartbeats 8000000 in
set_option maxRecDepth 100000 in
theorem impl_LongestNumber.calls (k : Nat) (A0_0 : Option Addr) (c0_0 : Nat) (l0_0 : List (S102)) (A0_1 : Option Addr) (c0_1 : Nat) (l0_1 : List (S104)) (a1 a2 r1 : Int) (r2 : ByteArray) (r3 : Int) (w : World) (hr0_0 : Kd.C k102 w A0_0 l0_0.length l0_0) (hc0_0 : l0_0.length ≤ c0_0) (hr0_1 : Kd.C k104 w A0_1 l0_1.length l0_1) (hc0_1 : l0_1.length ≤ c0_1) (h : impl_LongestNumber.f k l0_0 l0_1 a1 a2 = some (r1, r2, r3)) :
  Calls Try.prog 15 #[.agg #[.slice A0_0 l0_0.length c0_0, .slice A0_1 l0_1.length c0_1], .int .i64 a1, .int .i64 a2] w fun e w' => e = .returned (.tuple #[.int .i64 r1, .string r2, .int .i64 r3]) ∧ Below w.heap.size w w' := by
 have hu31 := Try.underlying31
 have hu72 := Try.underlying72
 have HR0_0 := Aside0.mk hr0_0
 have HC0_0 := Aside0.mk hc0_0
 clear hr0_0 hc0_0
 have HR0_1 := Aside0.mk hr0_1
 have HC0_1 := Aside0.mk hc0_1
 clear hr0_1 hc0_1
 have HB := Aside0.mk (Below.refl w.heap.size w)
 have H : ((impl_ValidSystem.f l0_0 l0_1).bind fun t391 => (if t391 = true then ((impl_within.f a1 0 10000).bind fun t392 => (if t392 = true then ((impl_within.f a2 0 10000).bind fun t393 => (if t393 = true then (if a1 > a2 then (some (0, (⟨#[]⟩ : ByteArray), 2)) else ((impl_builderOf.f k l0_0 l0_1).bind fun bt394 => ((impl_builder_lengths.f k bt394.1 bt394.2 a2).bind fun t401 => (impl_LongestNumber.l0 k a2 t401 0 (-1) a1 bt394.1 bt394.2)))) else (some (0, (⟨#[]⟩ : ByteArray), 2)))) else (some (0, (⟨#[]⟩ : ByteArray), 2)))) else (some (0, (⟨#[]⟩ : ByteArray), 1)))) = some (r1, r2, r3) := h
 clear h
 replace H := Option.bind_eq_some_iff.mp H
 obtain ⟨t391, A40, H⟩ := H
 (try dsimp only at H)
 have A4 := Aside0.mk A40
 clear A40
 by_cases c5 : t391 = true
 ·subst c5
  have H1 : ((impl_within.f a1 0 10000).bind fun t392 => (if t392 = true then ((impl_within.f a2 0 10000).bind fun t393 => (if t393 = true then (if a1 > a2 then (some (0, (⟨#[]⟩ : ByteArray), 2)) else ((impl_builderOf.f k l0_0 l0_1).bind fun bt394 => ((impl_builder_lengths.f k bt394.1 bt394.2 a2).bind fun t401 => (impl_LongestNumber.l0 k a2 t401 0 (-1) a1 bt394.1 bt394.2)))) else (some (0, (⟨#[]⟩ : ByteArray), 2)))) else (some (0, (⟨#[]⟩ : ByteArray), 2)))) = some (r1, r2, r3) := by rw [if_pos rfl] at H; exact H
  clear H
  have H := H1
  clear H1
  replace H := Option.bind_eq_some_iff.mp H
  obtain ⟨t392, A60, H⟩ := H
  (try dsimp only at H)
  have A6 := Aside0.mk A60
  clear A60
  by_cases c7 : t392 = true
  ·subst c7
   have H1 : ((impl_within.f a2 0 10000).bind fun t393 => (if t393 = true then (if a1 > a2 then (some (0, (⟨#[]⟩ : ByteArray), 2)) else ((impl_builderOf.f k l0_0 l0_1).bind fun bt394 => ((impl_builder_lengths.f k bt394.1 bt394.2 a2).bind fun t401 => (impl_LongestNumber.l0 k a2 t401 0 (-1) a1 bt394.1 bt394.2)))) else (some (0, (⟨#[]⟩ : ByteArray), 2)))) = some (r1, r2, r3) := by rw [if_pos rfl] at H; exact H
   clear H
   have H := H1
   clear H1
   replace H := Option.bind_eq_some_iff.mp H
   obtain ⟨t393, A80, H⟩ := H
   (try dsimp only at H)
   have A8 := Aside0.mk A80
   clear A80
   by_cases c9 : t393 = true
   ·subst c9
    have H1 : (if a1 > a2 then (some (0, (⟨#[]⟩ : ByteArray), 2)) else ((impl_builderOf.f k l0_0 l0_1).bind fun bt394 => ((impl_builder_lengths.f k bt394.1 bt394.2 a2).bind fun t401 => (impl_LongestNumber.l0 k a2 t401 0 (-1) a1 bt394.1 bt394.2)))) = some (r1, r2, r3) := by rw [if_pos rfl] at H; exact H
    clear H
    have H := H1
    clear H1
    by_cases c10 : a1 > a2
    ·rw [if_pos c10] at H
     have c10b0 : decide (a2 < a1) = true := decide_eq_true c10
     clear c10
     simp only [Option.some.injEq, Prod.mk.injEq] at H
     obtain ⟨rfl, rfl, rfl⟩ := H
     go_enter Try.func15, Try.ntmps15
     go_wp2_with (first | ((with_reducible refine gate_dst (N := 3) rfl ?_); refine box_event ?hg (N := 3) ?hd (cs := #[.slice A0_0 l0_0.length c0_0, .slice A0_1 l0_1.length c0_1]) (t := 31) ?hr ?_; (case hd => rfl); (case hg => rfl); (case hr => first | (go_simp; done) | (go_simp; rfl)); intro gb390 hg w11 hbox hb; have n0_ := Aside0.mk (below_step (by repeat (first | (with_reducible first | exact HB.out | apply bwA | apply pwN | apply bw1) | exact HB.out)) hb); have n1_ := Aside0.mk (hbox); have n2_ := Aside0.mk ((by rw [hg]; exact (below_size (by repeat (first | (with_reducible first | exact HB.out | apply bwA | apply pwN | apply bw1) | exact HB.out))) : w.heap.size ≤ gb390)); have n3_ := Aside0.mk (n2_.out); clear HB; have HB := n0_; have BK390 := n1_; have GW390 := n2_; have GE390 := n3_; clear n0_ n1_ n2_ n3_; clear hb hbox hg; have hcz12_0 : w11.cell? ⟨gb390, 0, none⟩ = some (.slice A0_0 l0_0.length c0_0) := (blk_cell BK390.out 0).trans rfl; have hcz12_1 : w11.cell? ⟨gb390, 1, none⟩ = some (.slice A0_1 l0_1.length c0_1) := (blk_cell BK390.out 1).trans rfl; have hfz12_0 := blk_frozen BK390.out 0; have hfz12_1 := blk_frozen BK390.out 1) | ((with_reducible refine gate_callee (f := 31) rfl ?_); refine goesL_ (some 17) rfl rfl Try.func31 (by kernel_rfl) rfl #[.agg #[.slice A0_0 l0_0.length c0_0, .slice A0_1 l0_1.length c0_1]] rfl (by (try simp only [List.map_toArray, List.map_cons, List.map_nil]); first | done | rfl | (simp only [List.length_drop, List.length_take]; rfl)) ?_; (with_reducible refine (impl_ValidSystem.calls _ _ l0_0 _ _ l0_1 true _ ?side1 ?side2 ?side3 ?side4 A4.out).mono ?_); (case side1 => repeat (first | exact (Kd.C_below HR0_0.out HB.out) | (with_reducible refine Kd.C_alloc ?_ _) | (with_reducible refine Kd.C_drewN ?_ _) | (with_reducible refine Kd.C_drew ?_))); (case side2 => exact HC0_0.out); (case side3 => repeat (first | exact (Kd.C_below HR0_1.out HB.out) | (with_reducible refine Kd.C_alloc ?_ _) | (with_reducible refine Kd.C_drewN ?_ _) | (with_reducible refine Kd.C_drew ?_))); (case side4 => exact HC0_1.out); rintro e w13 ⟨rfl, hb⟩; refine ⟨_, rfl, ?_⟩; have n0_ := Aside0.mk (blk_below (g := gb390) (by (with_reducible repeat (first | refine blk_drewN ?_ _ | refine blk_drew ?_ | refine blk_alloc ?_ _)); exact BK390.out) hb); have n1_ := Aside0.mk (below_step (by repeat (first | (with_reducible first | exact HB.out | apply bwA | apply pwN | apply bw1 | refine below_set ?_ GE390.out) | exact HB.out)) hb); clear BK390; clear HB; have BK390 := n0_; have HB := n1_; clear n0_ n1_; (try clear hb); (try clear hb2); (try clear hk); (try clear hi)) | ((with_reducible refine gate_callee (f := 32) rfl ?_); refine goesL_ (some 21) rfl rfl Try.func32 (by kernel_rfl) rfl #[.int .i64 a1, .int .i64 0, .int .i64 10000] rfl (by (try simp only [List.map_toArray, List.map_cons, List.map_nil]); first | done | rfl | (simp only [List.length_drop, List.length_take]; rfl)) ?_; (with_reducible refine (impl_within.calls a1 0 10000 true _ A6.out).mono ?_); rintro e w' ⟨rfl, ⟨nd, rfl⟩⟩; refine ⟨_, rfl, ?_⟩) | (go_at_call 32; (with_reducible refine (impl_within.calls a2 0 10000 true _ A8.out).mono ?_); rintro e w' ⟨rfl, ⟨nd, rfl⟩⟩))
     go_ret3
     exact ⟨by first | rfl | (simp [errW_none, errW_some, i64_w]; done) | (simp [errW_none, errW_some] <;> rfl) | (simp [*, errW_none, errW_some] <;> rfl), by repeat (first | (with_reducible first | exact HB.out | apply bwA | apply pwN | apply bw1 | refine below_set ?_ GE390.out) | exact HB.out)⟩
    ·rw [if_neg c10] at H
     have c10b0 : decide (a2 < a1) = false := decide_eq_false c10
     clear c10
     replace H := Option.bind_eq_some_iff.mp H
     obtain ⟨⟨t394, t397⟩, A140, H⟩ := H
     (try dsimp only at H)
     have A14 := Aside0.mk A140
     clear A140
     replace H := Option.bind_eq_some_iff.mp H
     obtain ⟨t401, A150, H⟩ := H
     (try dsimp only at H)
     have A15 := Aside0.mk A150
     clear A150
     have H' := Aside0.mk H
     clear H
     go_enter Try.func15, Try.ntmps15
     go_wp2_with (first | ((with_reducible refine gate_dst (N := 3) rfl ?_); refine box_event ?hg (N := 3) ?hd (cs := #[.slice A0_0 l0_0.length c0_0, .slice A0_1 l0_1.length c0_1]) (t := 31) ?hr ?_; (case hd => rfl); (case hg => rfl); (case hr => first | (go_simp; done) | (go_simp; rfl)); intro gb390 hg w16 hbox hb; have n0_ := Aside0.mk (below_step (by repeat (first | (with_reducible first | exact HB.out | apply bwA | apply pwN | apply bw1) | exact HB.out)) hb); have n1_ := Aside0.mk (hbox); have n2_ := Aside0.mk ((by rw [hg]; exact (below_size (by repeat (first | (with_reducible first | exact HB.out | apply bwA | apply pwN | apply bw1) | exact HB.out))) : w.heap.size ≤ gb390)); have n3_ := Aside0.mk (n2_.out); clear HB; have HB := n0_; have BK390 := n1_; have GW390 := n2_; have GE390 := n3_; clear n0_ n1_ n2_ n3_; clear hb hbox hg; have hcz17_0 : w16.cell? ⟨gb390, 0, none⟩ = some (.slice A0_0 l0_0.length c0_0) := (blk_cell BK390.out 0).trans rfl; have hcz17_1 : w16.cell? ⟨gb390, 1, none⟩ = some (.slice A0_1 l0_1.length c0_1) := (blk_cell BK390.out 1).trans rfl; have hfz17_0 := blk_frozen BK390.out 0; have hfz17_1 := blk_frozen BK390.out 1) | ((with_reducible refine gate_callee (f := 31) rfl ?_); refine goesL_ (some 17) rfl rfl Try.func31 (by kernel_rfl) rfl #[.agg #[.slice A0_0 l0_0.length c0_0, .slice A0_1 l0_1.length c0_1]] rfl (by (try simp only [List.map_toArray, List.map_cons, List.map_nil]); first | done | rfl | (simp only [List.length_drop, List.length_take]; rfl)) ?_; (with_reducible refine (impl_ValidSystem.calls _ _ l0_0 _ _ l0_1 true _ ?side1 ?side2 ?side3 ?side4 A4.out).mono ?_); (case side1 => repeat (first | exact (Kd.C_below HR0_0.out HB.out) | (with_reducible refine Kd.C_alloc ?_ _) | (with_reducible refine Kd.C_drewN ?_ _) | (with_reducible refine Kd.C_drew ?_))); (case side2 => exact HC0_0.out); (case side3 => repeat (first | exact (Kd.C_below HR0_1.out HB.out) | (with_reducible refine Kd.C_alloc ?_ _) | (with_reducible refine Kd.C_drewN ?_ _) | (with_reducible refine Kd.C_drew ?_))); (case side4 => exact HC0_1.out); rintro e w18 ⟨rfl, hb⟩; refine ⟨_, rfl, ?_⟩; have n0_ := Aside0.mk (blk_below (g := gb390) (by (with_reducible repeat (first | refine blk_drewN ?_ _ | refine blk_drew ?_ | refine blk_alloc ?_ _)); exact BK390.out) hb); have n1_ := Aside0.mk (below_step (by repeat (first | (with_reducible first | exact HB.out | apply bwA | apply pwN | apply bw1 | refine below_set ?_ GE390.out) | exact HB.out)) hb); clear BK390; clear HB; have BK390 := n0_; have HB := n1_; clear n0_ n1_; (try clear hb); (try clear hb2); (try clear hk); (try clear hi)) | ((with_reducible refine gate_callee (f := 32) rfl ?_); refine goesL_ (some 21) rfl rfl Try.func32 (by kernel_rfl) rfl #[.int .i64 a1, .int .i64 0, .int .i64 10000] rfl (by (try simp only [List.map_toArray, List.map_cons, List.map_nil]); first | done | rfl | (simp only [List.length_drop, List.length_take]; rfl)) ?_; (with_reducible refine (impl_within.calls a1 0 10000 true _ A6.out).mono ?_); rintro e w' ⟨rfl, ⟨nd, rfl⟩⟩; refine ⟨_, rfl, ?_⟩; (try (rw [drewN_self w18]; generalize hq_ : World.drewN w18 _ = w18; have n0_ : Aside0 (w18.heap[gb390]? = some (.cells #[.slice A0_0 l0_0.length c0_0, .slice A0_1 l0_1.length c0_1] 31 (0, 0))) := ⟨by rw [← hq_]; exact (by (with_reducible repeat (first | refine blk_drewN ?_ _ | refine blk_drew ?_ | refine blk_alloc ?_ _)); exact BK390.out)⟩; have n1_ : Aside0 (Below w.heap.size w w18) := ⟨by rw [← hq_]; exact (by repeat (first | (with_reducible first | exact HB.out | apply bwA | apply pwN | apply bw1 | refine below_set ?_ GE390.out) | exact HB.out))⟩; clear BK390 HB hq_; have BK390 := n0_; have HB := n1_; clear n0_ n1_))) | (go_at_call 32; (with_reducible refine (impl_within.calls a2 0 10000 true _ A8.out).mono ?_); rintro e w' ⟨rfl, ⟨nd, rfl⟩⟩; (try (rw [drewN_self w18]; generalize hq_ : World.drewN w18 _ = w18; have n0_ : Aside0 (w18.heap[gb390]? = some (.cells #[.slice A0_0 l0_0.length c0_0, .slice A0_1 l0_1.length c0_1] 31 (0, 0))) := ⟨by rw [← hq_]; exact (by (with_reducible repeat (first | refine blk_drewN ?_ _ | refine blk_drew ?_ | refine blk_alloc ?_ _)); exact BK390.out)⟩; have n1_ : Aside0 (Below w.heap.size w w18) := ⟨by rw [← hq_]; exact (by repeat (first | (with_reducible first | exact HB.out | apply bwA | apply pwN | apply bw1 | refine below_set ?_ GE390.out) | exact HB.out))⟩; clear BK390 HB hq_; have BK390 := n0_; have HB := n1_; clear n0_ n1_)); have hcz19_0 : w18.cell? ⟨gb390, 0, none⟩ = some (.slice A0_0 l0_0.length c0_0) := (blk_cell BK390.out 0).trans rfl; have hcz19_1 : w18.cell? ⟨gb390, 1, none⟩ = some (.slice A0_1 l0_1.length c0_1) := (blk_cell BK390.out 1).trans rfl; have hfz19_0 := blk_frozen BK390.out 0; have hfz19_1 := blk_frozen BK390.out 1) | ((with_reducible refine gate_callee (f := 33) rfl ?_); refine goesL_ (some 34) rfl rfl Try.func33 (by kernel_rfl) rfl #[.agg #[.slice A0_0 l0_0.length c0_0, .slice A0_1 l0_1.length c0_1]] rfl (by (try simp only [List.map_toArray, List.map_cons, List.map_nil]); first | done | rfl | (simp only [List.length_drop, List.length_take]; rfl)) ?_; (with_reducible refine (impl_builderOf.calls k _ _ l0_0 _ _ l0_1 t394 t397 _ ?side1 ?side2 ?side3 ?side4 A14.out).mono ?_); (case side1 => repeat (first | exact (Kd.C_below HR0_0.out HB.out) | (with_reducible refine Kd.C_alloc ?_ _) | (with_reducible refine Kd.C_drewN ?_ _) | (with_reducible refine Kd.C_drew ?_))); (case side2 => exact HC0_0.out); (case side3 => repeat (first | exact (Kd.C_below HR0_1.out HB.out) | (with_reducible refine Kd.C_alloc ?_ _) | (with_reducible refine Kd.C_drewN ?_ _) | (with_reducible refine Kd.C_drew ?_))); (case side4 => exact HC0_1.out); rintro e w20 ⟨v395, v398, rfl, ho0, ho1, hb⟩; refine ⟨_, rfl, ?_⟩; have n0_ := Aside0.mk (Kd.R_lower ho0 (below_size (by repeat (first | (with_reducible first | exact HB.out | apply bwA | apply pwN | apply bw1 | refine below_set ?_ GE390.out) | exact HB.out)))); have n1_ := Aside0.mk (Kd.S_lower ho1 (below_size (by repeat (first | (with_reducible first | exact HB.out | apply bwA | apply pwN | apply bw1 | refine below_set ?_ GE390.out) | exact HB.out)))); have n2_ := Aside0.mk (blk_below (g := gb390) (by (with_reducible repeat (first | refine blk_drewN ?_ _ | refine blk_drew ?_ | refine blk_alloc ?_ _)); exact BK390.out) hb); have n3_ := Aside0.mk (below_step (by repeat (first | (with_reducible first | exact HB.out | apply bwA | apply pwN | apply bw1 | refine below_set ?_ GE390.out) | exact HB.out)) hb); clear BK390; clear HB; have HO396 := n0_; have HO399 := n1_; have BK390 := n2_; have HB := n3_; clear n0_ n1_ n2_ n3_; (try clear hb); (try clear hb2); (try clear hk); (try clear hi); (try clear ho0); (try clear ho1)) | ((with_reducible refine gate_dst (N := 9) rfl ?_); refine box_event ?hg (N := 9) ?hd (cs := #[.slice none 0 0, .slice none 0 0]) (t := 72) ?hr ?_; (case hd => rfl); (case hg => rfl); (case hr => first | (go_simp; done) | (go_simp; rfl)); intro gb400 hg w21 hbox hb; have n0_ := Aside0.mk (Kd.R_below (by (with_reducible repeat (first | apply Kd.R_alloc | apply Kd.R_drewN | apply Kd.R_drew)); exact HO396.out) hb); have n1_ := Aside0.mk (Kd.S_below (by (with_reducible repeat (first | apply Kd.S_alloc | apply Kd.S_drewN | apply Kd.S_drew)); exact HO399.out) hb); have n2_ := Aside0.mk (blk_below (g := gb390) (by (with_reducible repeat (first | refine blk_drewN ?_ _ | refine blk_drew ?_ | refine blk_alloc ?_ _)); exact BK390.out) hb); have n3_ := Aside0.mk (below_step (by repeat (first | (with_reducible first | exact HB.out | apply bwA | apply pwN | apply bw1 | refine below_set ?_ GE390.out) | exact HB.out)) hb); have n4_ := Aside0.mk (hbox); have n5_ := Aside0.mk ((by rw [hg]; exact (below_size (by repeat (first | (with_reducible first | exact HB.out | apply bwA | apply pwN | apply bw1 | refine below_set ?_ GE390.out) | exact HB.out))) : w.heap.size ≤ gb400)); have n6_ := Aside0.mk (n5_.out); have n7_ := Aside0.mk ((by rw [hg]; exact Nat.ne_of_lt (blk_lt (g := gb390) (by (with_reducible repeat (first | refine blk_drewN ?_ _ | refine blk_drew ?_ | refine blk_alloc ?_ _)); exact BK390.out)) : gb390 ≠ gb400)); have n8_ := Aside0.mk ((Ne.symm n7_.out)); clear HO396; clear HO399; clear BK390; clear HB; have HO396 := n0_; have HO399 := n1_; have BK390 := n2_; have HB := n3_; have BK400 := n4_; have GW400 := n5_; have GE400 := n6_; have NB390_400 := n7_; have NB400_390 := n8_; clear n0_ n1_ n2_ n3_ n4_ n5_ n6_ n7_ n8_; clear hb hbox hg; obtain ⟨Ao22, co22, eo22⟩ := Kd.R_slice HO396.out; subst eo22; have hnb23 := NB400_390.out; have hnc23 := NB390_400.out; have hcz24_0 : w21.cell? ⟨gb400, 0, none⟩ = some (.slice none 0 0) := (blk_cell BK400.out 0).trans rfl; have hcz24_1 : w21.cell? ⟨gb400, 1, none⟩ = some (.slice none 0 0) := (blk_cell BK400.out 1).trans rfl; have hfz24_0 := blk_frozen BK400.out 0; have hfz24_1 := blk_frozen BK400.out 1; obtain ⟨Ao25, co25, eo25⟩ := Kd.S_slice HO399.out; subst eo25) | ((with_reducible refine gate_callee (f := 41) rfl ?_); refine goesL_ (some 37) rfl rfl Try.func41 (by kernel_rfl) rfl #[.agg #[.slice Ao22 t394.length co22, .slice Ao25 t397.length co25], .int .i64 a2] rfl (by (try simp only [List.map_toArray, List.map_cons, List.map_nil]); first | done | rfl | (simp only [List.length_drop, List.length_take]; rfl)) ?_; (with_reducible refine (impl_builder_lengths.calls k _ _ t394 _ _ t397 a2 t401 _ ?side1 ?side2 ?side3 ?side4 A15.out).mono ?_); (case side1 => refine (Kd.R_reads' (e := 81) (base := w.heap.size) (ok := fun k_ => True) (n := t394.length) (c := co22) ?_).2.2; exact (by (with_reducible repeat (first | apply Kd.R_alloc | apply Kd.R_drewN | apply Kd.R_drew)); exact (Kd.R_mono (Kd.R_far (p := ⟨gb400, 1, none⟩) (Kd.R_far (p := ⟨gb400, 0, none⟩) (Kd.R_types HO396.out BK400.out (by decide)) (fun _ hk => hk.2) (.slice Ao22 t394.length co22)) (fun _ hk => hk.2) (.slice Ao25 t397.length co25)) (fun _ h_ => h_.1)))); (case side2 => exact (Kd.R_reads' HO396.out).2.1); (case side3 => refine (Kd.S_reads' (e := 75) (base := w.heap.size) (ok := fun k_ => True) (n := t397.length) (c := co25) ?_).2.2; exact (by (with_reducible repeat (first | apply Kd.S_alloc | apply Kd.S_drewN | apply Kd.S_drew)); exact (Kd.S_mono (Kd.S_far (p := ⟨gb400, 1, none⟩) (Kd.S_far (p := ⟨gb400, 0, none⟩) (Kd.S_types HO399.out BK400.out (by decide)) (fun _ hk => hk.2) (.slice Ao22 t394.length co22)) (fun _ hk => hk.2) (.slice Ao25 t397.length co25)) (fun _ h_ => h_.1)))); (case side4 => exact (Kd.S_reads' HO399.out).2.1); rintro e w26 ⟨v402, rfl, ho0, hb⟩; refine ⟨_, rfl, ?_⟩; have n0_ := Aside0.mk (Kd.R_below (by (with_reducible repeat (first | apply Kd.R_alloc | apply Kd.R_drewN | apply Kd.R_drew)); exact (Kd.R_mono (Kd.R_far (p := ⟨gb400, 1, none⟩) (Kd.R_far (p := ⟨gb400, 0, none⟩) (Kd.R_types HO396.out BK400.out (by decide)) (fun _ hk => hk.2) (.slice Ao22 t394.length co22)) (fun _ hk => hk.2) (.slice Ao25 t397.length co25)) (fun _ h_ => h_.1))) hb); have n1_ := Aside0.mk (Kd.S_below (by (with_reducible repeat (first | apply Kd.S_alloc | apply Kd.S_drewN | apply Kd.S_drew)); exact (Kd.S_mono (Kd.S_far (p := ⟨gb400, 1, none⟩) (Kd.S_far (p := ⟨gb400, 0, none⟩) (Kd.S_types HO399.out BK400.out (by decide)) (fun _ hk => hk.2) (.slice Ao22 t394.length co22)) (fun _ hk => hk.2) (.slice Ao25 t397.length co25)) (fun _ h_ => h_.1))) hb); have n2_ := Aside0.mk (Kd.S_lower ho0 (below_size (by repeat (first | (with_reducible first | exact HB.out | apply bwA | apply pwN | apply bw1 | refine below_set ?_ GE390.out | refine below_set ?_ GE400.out) | exact HB.out)))); have n3_ := Aside0.mk (blk_below (g := gb390) (blk_far (p := ⟨gb400, _, none⟩) (blk_far (p := ⟨gb400, _, none⟩) BK390.out NB390_400.out _) NB390_400.out _) hb); have n4_ := Aside0.mk (blk_below (g := gb400) (blk_put (cs := #[.slice Ao22 t394.length co22, .slice none 0 0]) (blk_put (cs := #[.slice none 0 0, .slice none 0 0]) BK400.out 0 _ rfl) 1 _ rfl) hb); have n5_ := Aside0.mk (below_step (by repeat (first | (with_reducible first | exact HB.out | apply bwA | apply pwN | apply bw1 | refine below_set ?_ GE390.out | refine below_set ?_ GE400.out) | exact HB.out)) hb); clear HO396; clear HO399; clear BK390; clear BK400; clear HB; have HO396 := n0_; have HO399 := n1_; have HO403 := n2_; have BK390 := n3_; have BK400 := n4_; have HB := n5_; clear n0_ n1_ n2_ n3_ n4_ n5_; (try clear hb); (try clear hb2); (try clear hk); (try clear hi); (try clear ho0)))
     go_loopg [11, 12, 13] k (fun kq v11 v12 v13 w' => ∃ (x11_1 x12_1 x13_1 : Int), v11 = .int .i64 x11_1 ∧ v12 = .int .i8 x12_1 ∧ v13 = .int .i64 x13_1 ∧ Aside0 (impl_LongestNumber.l0 kq a2 t401 x11_1 x12_1 x13_1 t394 t397 = some (r1, r2, r3)) ∧ Aside0 (kq ≤ k) ∧ Aside0 (Kd.S (Kd.slice 39 (Kd.int .i8)) 124 w' w.heap.size (fun _ => True) v402 t401) ∧ Aside0 (Kd.R k81 81 w' w.heap.size (fun _ => True) (.slice Ao22 t394.length co22) t394) ∧ Aside0 (Kd.S (Kd.slice 3 (Kd.int .i64)) 75 w' w.heap.size (fun _ => True) (.slice Ao25 t397.length co25) t397) ∧ Aside0 (w'.heap[gb390]? = some (.cells #[(.slice A0_0 l0_0.length c0_0), (.slice A0_1 l0_1.length c0_1)] 31 (0, 0))) ∧ Aside0 (w'.heap[gb400]? = some (.cells #[(.slice Ao22 t394.length co22), (.slice Ao25 t397.length co25)] 72 (0, 0))) ∧ Aside0 (Below w.heap.size w w'))
     case atStart => exact ⟨(0), ((-1)), (a1), (by first | rfl | (simp; done) | (simp [*]; done)), (by first | rfl | (simp; done) | (simp [*]; done)), (by first | rfl | (simp; done) | (simp [*]; done)), H', ⟨Nat.le_refl _⟩, ⟨by (with_reducible repeat (first | apply Kd.S_alloc | apply Kd.S_drewN | apply Kd.S_drew)); exact HO403.out⟩, ⟨by (with_reducible repeat (first | apply Kd.R_alloc | apply Kd.R_drewN | apply Kd.R_drew)); exact HO396.out⟩, ⟨by (with_reducible repeat (first | apply Kd.S_alloc | apply Kd.S_drewN | apply Kd.S_drew)); exact HO399.out⟩, ⟨by (with_reducible repeat (first | refine blk_drewN ?_ _ | refine blk_drew ?_ | refine blk_alloc ?_ _)); exact BK390.out⟩, ⟨by (with_reducible repeat (first | refine blk_drewN ?_ _ | refine blk_drew ?_ | refine blk_alloc ?_ _)); exact BK400.out⟩, ⟨by repeat (first | (with_reducible first | exact HB.out | apply bwA | apply pwN | apply bw1 | refine below_set ?_ GE390.out | refine below_set ?_ GE400.out) | exact HB.out)⟩⟩
     case round =>
      clear H'
      try clear c1
      try clear c2
      try clear p2
      try clear c3
      try clear c4
      try clear c5
      try clear c7
      try clear c9
      try clear c10
      try clear c10b0
      try clear c15
      try clear c23
      try clear hcz12_0
      try clear hcz12_1
      try clear hcz17_0
      try clear hcz17_1
      try clear hcz19_0
      try clear hcz19_1
      try clear hcz24_0
      try clear hcz24_1
      try clear hfz12_0
      try clear hfz12_1
      try clear hfz17_0
      try clear hfz17_1
      try clear hfz19_0
      try clear hfz19_1
      try clear hfz24_0
      try clear hfz24_1
      obtain ⟨x11_1, x12_1, x13_1, rfl, rfl, rfl, HA, HK1, HO_10, HO_401000, HO_401001, BK390, BK400, HB⟩ := hrel
      cases gk with
      | zero => exact absurd HA.out (by simp [impl_LongestNumber.l0])
      | succ k1 =>
       have H := HA.out
       clear HA
       simp only [impl_LongestNumber.l0] at H
       by_cases c27 : x13_1 ≤ a2
       ·rw [if_pos c27] at H
        have c27b0 : decide (x13_1 ≤ a2) = true := decide_eq_true c27
        clear c27
        replace H := Option.bind_eq_some_iff.mp H
        obtain ⟨t404, A280, H⟩ := H
        (try dsimp only at H)
        have A28 := Aside0.mk A280
        clear A280
        by_cases c29 : t404 = 100
        ·rw [if_pos c29] at H
         have c29b0 : (t404 == 100) = true := beq_iff_eq.mpr c29
         have c29b1 : (t404 != 100) = false := bne_eq_false_iff_eq.mpr c29
         clear c29
         have H' := Aside0.mk H
         clear H
         obtain ⟨Ao30, co30, eo30⟩ := Kd.S_slice HO_10.out
         subst eo30
         go_wp2_with (first | ((with_reducible refine gate_callee (f := 42) rfl ?_); refine goesL_ (some 46) rfl rfl Try.func42 (by kernel_rfl) rfl #[.slice Ao30 t401.length co30, .int .i64 x13_1] rfl (by (try simp only [List.map_toArray, List.map_cons, List.map_nil]); first | done | rfl | (simp only [List.length_drop, List.length_take]; rfl)) ?_; (with_reducible refine (impl_fewest.calls _ _ t401 x13_1 t404 _ ?side1 ?side2 A28.out).mono ?_); (case side1 => repeat (first | exact (Kd.S_reads' HO_10.out).2.2 | (with_reducible refine Kd.C_alloc ?_ _) | (with_reducible refine Kd.C_drewN ?_ _) | (with_reducible refine Kd.C_drew ?_))); (case side2 => exact (Kd.S_reads' HO_10.out).2.1); rintro e w31 ⟨rfl, hb⟩; refine ⟨_, rfl, ?_⟩; have n0_ := Aside0.mk (Kd.S_below (by (with_reducible repeat (first | apply Kd.S_alloc | apply Kd.S_drewN | apply Kd.S_drew)); exact HO_10.out) hb); have n1_ := Aside0.mk (Kd.R_below (by (with_reducible repeat (first | apply Kd.R_alloc | apply Kd.R_drewN | apply Kd.R_drew)); exact HO_401000.out) hb); have n2_ := Aside0.mk (Kd.S_below (by (with_reducible repeat (first | apply Kd.S_alloc | apply Kd.S_drewN | apply Kd.S_drew)); exact HO_401001.out) hb); have n3_ := Aside0.mk (blk_below (g := gb390) (by (with_reducible repeat (first | refine blk_drewN ?_ _ | refine blk_drew ?_ | refine blk_alloc ?_ _)); exact BK390.out) hb); have n4_ := Aside0.mk (blk_below (g := gb400) (by (with_reducible repeat (first | refine blk_drewN ?_ _ | refine blk_drew ?_ | refine blk_alloc ?_ _)); exact BK400.out) hb); have n5_ := Aside0.mk (below_step (by repeat (first | (with_reducible first | exact HB.out | apply bwA | apply pwN | apply bw1 | refine below_set ?_ GE390.out | refine below_set ?_ GE400.out) | exact HB.out)) hb); clear HO_10; clear HO_401000; clear HO_401001; clear BK390; clear BK400; clear HB; have HO_10 := n0_; have HO_401000 := n1_; have HO_401001 := n2_; have BK390 := n3_; have BK400 := n4_; have HB := n5_; clear n0_ n1_ n2_ n3_ n4_ n5_; (try clear hb); (try clear hb2); (try clear hk); (try clear hi)))
         go_roundg k1
         case measure => have := HK1.out; omega
         case rel => exact ⟨(x11_1), (x12_1), (wrap64 (x13_1 + 1)), (by first | rfl | (simp; done) | (simp [*]; done)), (by first | rfl | (simp; done) | (simp [*]; done)), (by first | rfl | (simp; done) | (simp [*]; done)), H', ⟨by have := HK1.out; omega⟩, ⟨by (with_reducible repeat (first | apply Kd.S_alloc | apply Kd.S_drewN | apply Kd.S_drew)); exact HO_10.out⟩, ⟨by (with_reducible repeat (first | apply Kd.R_alloc | apply Kd.R_drewN | apply Kd.R_drew)); exact HO_401000.out⟩, ⟨by (with_reducible repeat (first | apply Kd.S_alloc | apply Kd.S_drewN | apply Kd.S_drew)); exact HO_401001.out⟩, ⟨by (with_reducible repeat (first | refine blk_drewN ?_ _ | refine blk_drew ?_ | refine blk_alloc ?_ _)); exact BK390.out⟩, ⟨by (with_reducible repeat (first | refine blk_drewN ?_ _ | refine blk_drew ?_ | refine blk_alloc ?_ _)); exact BK400.out⟩, ⟨by repeat (first | (with_reducible first | exact HB.out | apply bwA | apply pwN | apply bw1 | refine below_set ?_ GE390.out | refine below_set ?_ GE400.out) | exact HB.out)⟩⟩
        ·rw [if_neg c29] at H
         have c29b0 : (t404 == 100) = false := beq_eq_false_iff_ne.mpr c29
         have c29b1 : (t404 != 100) = true := bne_iff_ne.mpr c29
         by_cases c32 : t404 > x12_1
         ·rw [if_pos c32] at H
          have c32b0 : decide (x12_1 < t404) = true := decide_eq_true c32
          clear c32
          have H' := Aside0.mk H
          clear H
          obtain ⟨Ao33, co33, eo33⟩ := Kd.S_slice HO_10.out
          subst eo33
          go_wp2_with (first | ((with_reducible refine gate_callee (f := 42) rfl ?_); refine goesL_ (some 46) rfl rfl Try.func42 (by kernel_rfl) rfl #[.slice Ao33 t401.length co33, .int .i64 x13_1] rfl (by (try simp only [List.map_toArray, List.map_cons, List.map_nil]); first | done | rfl | (simp only [List.length_drop, List.length_take]; rfl)) ?_; (with_reducible refine (impl_fewest.calls _ _ t401 x13_1 t404 _ ?side1 ?side2 A28.out).mono ?_); (case side1 => repeat (first | exact (Kd.S_reads' HO_10.out).2.2 | (with_reducible refine Kd.C_alloc ?_ _) | (with_reducible refine Kd.C_drewN ?_ _) | (with_reducible refine Kd.C_drew ?_))); (case side2 => exact (Kd.S_reads' HO_10.out).2.1); rintro e w34 ⟨rfl, hb⟩; refine ⟨_, rfl, ?_⟩; have n0_ := Aside0.mk (Kd.S_below (by (with_reducible repeat (first | apply Kd.S_alloc | apply Kd.S_drewN | apply Kd.S_drew)); exact HO_10.out) hb); have n1_ := Aside0.mk (Kd.R_below (by (with_reducible repeat (first | apply Kd.R_alloc | apply Kd.R_drewN | apply Kd.R_drew)); exact HO_401000.out) hb); have n2_ := Aside0.mk (Kd.S_below (by (with_reducible repeat (first | apply Kd.S_alloc | apply Kd.S_drewN | apply Kd.S_drew)); exact HO_401001.out) hb); have n3_ := Aside0.mk (blk_below (g := gb390) (by (with_reducible repeat (first | refine blk_drewN ?_ _ | refine blk_drew ?_ | refine blk_alloc ?_ _)); exact BK390.out) hb); have n4_ := Aside0.mk (blk_below (g := gb400) (by (with_reducible repeat (first | refine blk_drewN ?_ _ | refine blk_drew ?_ | refine blk_alloc ?_ _)); exact BK400.out) hb); have n5_ := Aside0.mk (below_step (by repeat (first | (with_reducible first | exact HB.out | apply bwA | apply pwN | apply bw1 | refine below_set ?_ GE390.out | refine below_set ?_ GE400.out) | exact HB.out)) hb); clear HO_10; clear HO_401000; clear HO_401001; clear BK390; clear BK400; clear HB; have HO_10 := n0_; have HO_401000 := n1_; have HO_401001 := n2_; have BK390 := n3_; have BK400 := n4_; have HB := n5_; clear n0_ n1_ n2_ n3_ n4_ n5_; (try clear hb); (try clear hb2); (try clear hk); (try clear hi)))
          go_roundg k1
          case measure => have := HK1.out; omega
          case rel => exact ⟨(x13_1), (t404), (wrap64 (x13_1 + 1)), (by first | rfl | (simp; done) | (simp [*]; done)), (by first | rfl | (simp; done) | (simp [*]; done)), (by first | rfl | (simp; done) | (simp [*]; done)), H', ⟨by have := HK1.out; omega⟩, ⟨by (with_reducible repeat (first | apply Kd.S_alloc | apply Kd.S_drewN | apply Kd.S_drew)); exact HO_10.out⟩, ⟨by (with_reducible repeat (first | apply Kd.R_alloc | apply Kd.R_drewN | apply Kd.R_drew)); exact HO_401000.out⟩, ⟨by (with_reducible repeat (first | apply Kd.S_alloc | apply Kd.S_drewN | apply Kd.S_drew)); exact HO_401001.out⟩, ⟨by (with_reducible repeat (first | refine blk_drewN ?_ _ | refine blk_drew ?_ | refine blk_alloc ?_ _)); exact BK390.out⟩, ⟨by (with_reducible repeat (first | refine blk_drewN ?_ _ | refine blk_drew ?_ | refine blk_alloc ?_ _)); exact BK400.out⟩, ⟨by repeat (first | (with_reducible first | exact HB.out | apply bwA | apply pwN | apply bw1 | refine below_set ?_ GE390.out | refine below_set ?_ GE400.out) | exact HB.out)⟩⟩
         ·rw [if_neg c32] at H
          have c32b0 : decide (x12_1 < t404) = false := decide_eq_false c32
          clear c32
          have H' := Aside0.mk H
          clear H
          obtain ⟨Ao35, co35, eo35⟩ := Kd.S_slice HO_10.out
          subst eo35
          go_wp2_with (first | ((with_reducible refine gate_callee (f := 42) rfl ?_); refine goesL_ (some 46) rfl rfl Try.func42 (by kernel_rfl) rfl #[.slice Ao35 t401.length co35, .int .i64 x13_1] rfl (by (try simp only [List.map_toArray, List.map_cons, List.map_nil]); first | done | rfl | (simp only [List.length_drop, List.length_take]; rfl)) ?_; (with_reducible refine (impl_fewest.calls _ _ t401 x13_1 t404 _ ?side1 ?side2 A28.out).mono ?_); (case side1 => repeat (first | exact (Kd.S_reads' HO_10.out).2.2 | (with_reducible refine Kd.C_alloc ?_ _) | (with_reducible refine Kd.C_drewN ?_ _) | (with_reducible refine Kd.C_drew ?_))); (case side2 => exact (Kd.S_reads' HO_10.out).2.1); rintro e w36 ⟨rfl, hb⟩; refine ⟨_, rfl, ?_⟩; have n0_ := Aside0.mk (Kd.S_below (by (with_reducible repeat (first | apply Kd.S_alloc | apply Kd.S_drewN | apply Kd.S_drew)); exact HO_10.out) hb); have n1_ := Aside0.mk (Kd.R_below (by (with_reducible repeat (first | apply Kd.R_alloc | apply Kd.R_drewN | apply Kd.R_drew)); exact HO_401000.out) hb); have n2_ := Aside0.mk (Kd.S_below (by (with_reducible repeat (first | apply Kd.S_alloc | apply Kd.S_drewN | apply Kd.S_drew)); exact HO_401001.out) hb); have n3_ := Aside0.mk (blk_below (g := gb390) (by (with_reducible repeat (first | refine blk_drewN ?_ _ | refine blk_drew ?_ | refine blk_alloc ?_ _)); exact BK390.out) hb); have n4_ := Aside0.mk (blk_below (g := gb400) (by (with_reducible repeat (first | refine blk_drewN ?_ _ | refine blk_drew ?_ | refine blk_alloc ?_ _)); exact BK400.out) hb); have n5_ := Aside0.mk (below_step (by repeat (first | (with_reducible first | exact HB.out | apply bwA | apply pwN | apply bw1 | refine below_set ?_ GE390.out | refine below_set ?_ GE400.out) | exact HB.out)) hb); clear HO_10; clear HO_401000; clear HO_401001; clear BK390; clear BK400; clear HB; have HO_10 := n0_; have HO_401000 := n1_; have HO_401001 := n2_; have BK390 := n3_; have BK400 := n4_; have HB := n5_; clear n0_ n1_ n2_ n3_ n4_ n5_; (try clear hb); (try clear hb2); (try clear hk); (try clear hi)))
          go_roundg k1
          case measure => have := HK1.out; omega
          case rel => exact ⟨(x11_1), (x12_1), (wrap64 (x13_1 + 1)), (by first | rfl | (simp; done) | (simp [*]; done)), (by first | rfl | (simp; done) | (simp [*]; done)), (by first | rfl | (simp; done) | (simp [*]; done)), H', ⟨by have := HK1.out; omega⟩, ⟨by (with_reducible repeat (first | apply Kd.S_alloc | apply Kd.S_drewN | apply Kd.S_drew)); exact HO_10.out⟩, ⟨by (with_reducible repeat (first | apply Kd.R_alloc | apply Kd.R_drewN | apply Kd.R_drew)); exact HO_401000.out⟩, ⟨by (with_reducible repeat (first | apply Kd.S_alloc | apply Kd.S_drewN | apply Kd.S_drew)); exact HO_401001.out⟩, ⟨by (with_reducible repeat (first | refine blk_drewN ?_ _ | refine blk_drew ?_ | refine blk_alloc ?_ _)); exact BK390.out⟩, ⟨by (with_reducible repeat (first | refine blk_drewN ?_ _ | refine blk_drew ?_ | refine blk_alloc ?_ _)); exact BK400.out⟩, ⟨by repeat (first | (with_reducible first | exact HB.out | apply bwA | apply pwN | apply bw1 | refine below_set ?_ GE390.out | refine below_set ?_ GE400.out) | exact HB.out)⟩⟩
       ·rw [if_neg c27] at H
        have c27b0 : decide (x13_1 ≤ a2) = false := decide_eq_false c27
        clear c27
        by_cases c37 : x12_1 < 0
        ·rw [if_pos c37] at H
         have c37b0 : decide (x12_1 < 0) = true := decide_eq_true c37
         clear c37
         simp only [Option.some.injEq, Prod.mk.injEq] at H
         obtain ⟨rfl, rfl, rfl⟩ := H
         go_wp2
         go_ret3
         exact ⟨by first | rfl | (simp [errW_none, errW_some, i64_w]; done) | (simp [errW_none, errW_some] <;> rfl) | (simp [*, errW_none, errW_some] <;> rfl), by repeat (first | (with_reducible first | exact HB.out | apply bwA | apply pwN | apply bw1 | refine below_set ?_ GE390.out | refine below_set ?_ GE400.out) | exact HB.out)⟩
        ·rw [if_neg c37] at H
         have c37b0 : decide (x12_1 < 0) = false := decide_eq_false c37
         clear c37
         replace H := Option.bind_eq_some_iff.mp H
         obtain ⟨t405, A380, H⟩ := H
         (try dsimp only at H)
         have A38 := Aside0.mk A380
         clear A380
         replace H := Option.bind_eq_some_iff.mp H
         obtain ⟨t408, A390, H⟩ := H
         (try dsimp only at H)
         have A39 := Aside0.mk A390
         clear A390
         simp only [Option.some.injEq, Prod.mk.injEq] at H
         obtain ⟨rfl, rfl, rfl⟩ := H
         try go_wp2
         have n0_ := Aside0.mk (Kd.S_drew HO_10.out)
         have n1_ := Aside0.mk (Kd.R_drew HO_401000.out)
         have n2_ := Aside0.mk (Kd.S_drew HO_401001.out)
         have n3_ := Aside0.mk (blk_drew BK390.out)
         have n4_ := Aside0.mk (blk_drew BK400.out)
         have n5_ := Aside0.mk (bw1 HB.out)
         clear HO_10
         clear HO_401000
         clear HO_401001
         clear BK390
         clear BK400
         clear HB
         have HO_10 := n0_
         have HO_401000 := n1_
         have HO_401001 := n2_
         have BK390 := n3_
         have BK400 := n4_
         have HB := n5_
         clear n0_ n1_ n2_ n3_ n4_ n5_
         refine start_ (n := 10) (S := fun w' => w'.cell? ⟨gb400, 0, none⟩ = some (.slice Ao22 t394.length co22) ∧ w'.cell? ⟨gb400, 1, none⟩ = some (.slice Ao25 t397.length co25)) (ds := []) #[false, false, false, false, false, false, false, false, false, false] (by kernel_rfl) rfl rfl ⟨(blk_cell BK400.out 0).trans rfl, (blk_cell BK400.out 1).trans rfl⟩ (fun hHeld => ?_); refine with_tabW impl_LongestNumber.tab16 impl_LongestNumber.bits16 (fun HT_ HW_ => ?_)
         generalize wr.drew = w40 at HO_10 HO_401000 HO_401001 BK390 BK400 HB hHeld ⊢
         refine pu_ 0 (some 58) HT_ ?_
         refine pu_ 2 (some 60) HT_ ?_
         refine pu_ 3 (some 61) HT_ ?_
         refine tk_ 1 (some 59) HT_ HW_ hHeld rfl (by rintro w' ⟨s0, s1⟩; go_simp; with_reducible rfl) ?_
         refine tk_ 4 (some 62) HT_ HW_ hHeld rfl (by rintro w' ⟨s0, s1⟩; go_simp; with_reducible rfl) ?_
         refine on_ 5 (some 63) HT_ fun K hK => ?_
         refine goes_ Try.func35 (by kernel_rfl) rfl #[.agg #[.slice Ao22 t394.length co22, .slice Ao25 t397.length co25]] (by rfl) rfl rfl (by (try simp only [List.map_toArray, List.map_cons, List.map_nil]); first | done | rfl | (simp only [List.length_drop, List.length_take]; rfl)) ?_
         with_reducible refine (impl_builder_all.calls k1 _ _ t394 _ _ t397 t405 _ ?side1 ?side2 ?side3 ?side4 A38.out).mono ?_
         (case side1 => repeat (first | exact (Kd.R_reads' HO_401000.out).2.2 | (with_reducible refine Kd.C_alloc ?_ _) | (with_reducible refine Kd.C_drewN ?_ _) | (with_reducible refine Kd.C_drew ?_)))
         (case side2 => exact (Kd.R_reads' HO_401000.out).2.1)
         (case side3 => repeat (first | exact (Kd.S_reads' HO_401001.out).2.2 | (with_reducible refine Kd.C_alloc ?_ _) | (with_reducible refine Kd.C_drewN ?_ _) | (with_reducible refine Kd.C_drew ?_)))
         (case side4 => exact (Kd.S_reads' HO_401001.out).2.1)
         rintro e w41 ⟨v406, rfl, ho0, hb⟩
         refine ⟨_, rfl, ?_⟩
         have n0_ := Aside0.mk (Kd.S_below (by (with_reducible repeat (first | apply Kd.S_alloc | apply Kd.S_drewN | apply Kd.S_drew)); exact HO_10.out) hb)
         have n1_ := Aside0.mk (Kd.R_below (by (with_reducible repeat (first | apply Kd.R_alloc | apply Kd.R_drewN | apply Kd.R_drew)); exact HO_401000.out) hb)
         have n2_ := Aside0.mk (Kd.S_elder' (by (with_reducible repeat (first | apply Kd.S_alloc | apply Kd.S_drewN | apply Kd.S_drew)); exact HO_401001.out) (Kd.R_base ho0) hb)
         have n3_ := Aside0.mk (Kd.R_lower ho0 (below_size (by repeat (first | (with_reducible first | exact HB.out | apply bwA | apply pwN | apply bw1 | refine below_set ?_ GE390.out | refine below_set ?_ GE400.out) | exact HB.out))))
         have n4_ := Aside0.mk (blk_below (g := gb390) (by (with_reducible repeat (first | refine blk_drewN ?_ _ | refine blk_drew ?_ | refine blk_alloc ?_ _)); exact BK390.out) hb)
         have n5_ := Aside0.mk (blk_below (g := gb400) (by (with_reducible repeat (first | refine blk_drewN ?_ _ | refine blk_drew ?_ | refine blk_alloc ?_ _)); exact BK400.out) hb)
         have n6_ := Aside0.mk (below_step (by repeat (first | (with_reducible first | exact HB.out | apply bwA | apply pwN | apply bw1 | refine below_set ?_ GE390.out | refine below_set ?_ GE400.out) | exact HB.out)) hb)
         clear HO_10
         clear HO_401000
         clear HO_401001
         clear BK390
         clear BK400
         clear HB
         have HO_10 := n0_
         have HO_401000 := n1_
         have HO_401001 := n2_
         have HO407 := n3_
         have BK390 := n4_
         have BK400 := n5_
         have HB := n6_
         clear n0_ n1_ n2_ n3_ n4_ n5_ n6_
         (try clear hb)
         (try clear hb2)
         (try clear hk)
         (try clear hi)
         (try clear ho0)
         obtain ⟨Ao42, co42, eo42⟩ := Kd.S_slice HO_10.out
         (first | subst eo42 | (injection eo42 with f1_ f2_ f3_; have f4_ := f1_.symm; have f5_ := f3_.symm; clear f1_ f2_ f3_; subst f4_; subst f5_))
         obtain ⟨Ao43, co43, eo43⟩ := Kd.R_slice HO407.out
         (first | subst eo43 | (injection eo43 with f1_ f2_ f3_; have f4_ := f1_.symm; have f5_ := f3_.symm; clear f1_ f2_ f3_; subst f4_; subst f5_))
         refine hK.out _ _ ⟨(blk_cell BK400.out 0).trans rfl, (blk_cell BK400.out 1).trans rfl⟩ (fun hHeld => ?_)
         clear hK K
         refine nm_ (some 63) ?_
         refine on_ 6 (some 64) HT_ fun K hK => ?_
         refine goes_ Try.func43 (by kernel_rfl) rfl #[.agg #[.slice Ao22 t394.length co22, .slice Ao25 t397.length co25], .slice Ao42 t401.length co42, .int .i64 x11_1, .slice Ao43 t405.length co43] (by rfl) rfl rfl (by (try simp only [List.map_toArray, List.map_cons, List.map_nil]); first | done | rfl | (simp only [List.length_drop, List.length_take]; rfl)) ?_
         with_reducible refine (impl_builder_shortest.calls k1 _ _ t394 _ _ t397 _ _ t401 x11_1 _ _ t405 t408 _ ?side1 ?side2 ?side3 ?side4 ?side5 ?side6 ?side7 ?side8 A39.out).mono ?_
         (case side1 => repeat (first | exact (Kd.R_reads' HO_401000.out).2.2 | (with_reducible refine Kd.C_alloc ?_ _) | (with_reducible refine Kd.C_drewN ?_ _) | (with_reducible refine Kd.C_drew ?_)))
         (case side2 => exact (Kd.R_reads' HO_401000.out).2.1)
         (case side3 => repeat (first | exact (Kd.S_reads' HO_401001.out).2.2 | (with_reducible refine Kd.C_alloc ?_ _) | (with_reducible refine Kd.C_drewN ?_ _) | (with_reducible refine Kd.C_drew ?_)))
         (case side4 => exact (Kd.S_reads' HO_401001.out).2.1)
         (case side5 => repeat (first | exact (Kd.S_reads' HO_10.out).2.2 | (with_reducible refine Kd.C_alloc ?_ _) | (with_reducible refine Kd.C_drewN ?_ _) | (with_reducible refine Kd.C_drew ?_)))
         (case side6 => exact (Kd.S_reads' HO_10.out).2.1)
         (case side7 => repeat (first | exact (Kd.R_reads' HO407.out).2.2 | (with_reducible refine Kd.C_alloc ?_ _) | (with_reducible refine Kd.C_drewN ?_ _) | (with_reducible refine Kd.C_drew ?_)))
         (case side8 => exact (Kd.R_reads' HO407.out).2.1)
         rintro e w44 ⟨rfl, hb⟩
         refine ⟨_, rfl, ?_⟩
         have n0_ := Aside0.mk (Kd.S_below (by (with_reducible repeat (first | apply Kd.S_alloc | apply Kd.S_drewN | apply Kd.S_drew)); exact HO_10.out) hb)
         have n1_ := Aside0.mk (Kd.R_below (by (with_reducible repeat (first | apply Kd.R_alloc | apply Kd.R_drewN | apply Kd.R_drew)); exact HO_401000.out) hb)
         have n2_ := Aside0.mk (Kd.S_below (by (with_reducible repeat (first | apply Kd.S_alloc | apply Kd.S_drewN | apply Kd.S_drew)); exact HO_401001.out) hb)
         have n3_ := Aside0.mk (Kd.R_below (by (with_reducible repeat (first | apply Kd.R_alloc | apply Kd.R_drewN | apply Kd.R_drew)); exact HO407.out) hb)
         have n4_ := Aside0.mk (blk_below (g := gb390) (by (with_reducible repeat (first | refine blk_drewN ?_ _ | refine blk_drew ?_ | refine blk_alloc ?_ _)); exact BK390.out) hb)
         have n5_ := Aside0.mk (blk_below (g := gb400) (by (with_reducible repeat (first | refine blk_drewN ?_ _ | refine blk_drew ?_ | refine blk_alloc ?_ _)); exact BK400.out) hb)
         have n6_ := Aside0.mk (below_step (by repeat (first | (with_reducible first | exact HB.out | apply bwA | apply pwN | apply bw1 | refine below_set ?_ GE390.out | refine below_set ?_ GE400.out) | exact HB.out)) hb)
         clear HO_10
         clear HO_401000
         clear HO_401001
         clear HO407
         clear BK390
         clear BK400
         clear HB
         have HO_10 := n0_
         have HO_401000 := n1_
         have HO_401001 := n2_
         have HO407 := n3_
         have BK390 := n4_
         have BK400 := n5_
         have HB := n6_
         clear n0_ n1_ n2_ n3_ n4_ n5_ n6_
         (try clear hb)
         (try clear hb2)
         (try clear hk)
         (try clear hi)
         refine hK.out _ _ ⟨(blk_cell BK400.out 0).trans rfl, (blk_cell BK400.out 1).trans rfl⟩ (fun hHeld => ?_)
         clear hK K
         refine nm_ (some 64) ?_
         refine pu_ 7 (some 6) HT_ ?_
         refine pu_ 8 (some 7) HT_ ?_
         refine pu_ 9 (some 8) HT_ ?_
         refine done_ (done_of HT_.out (by kernel_rfl)) ?_
         try go_wp2
         go_ret3
         exact ⟨by first | rfl | (simp [errW_none, errW_some, i64_w]; done) | (simp [errW_none, errW_some] <;> rfl) | (simp [*, errW_none, errW_some] <;> rfl), by repeat (first | (with_reducible first | exact HB.out | apply bwA | apply pwN | apply bw1 | refine below_set ?_ GE390.out | refine below_set ?_ GE400.out) | exact HB.out)⟩
   ·replace c9 := Bool.eq_false_iff.mpr c9
    subst c9
    have H1 : (some (0, (⟨#[]⟩ : ByteArray), 2)) = some (r1, r2, r3) := by rw [if_neg (show ¬ (false = true) by decide)] at H; exact H
    clear H
    have H := H1
    clear H1
    simp only [Option.some.injEq, Prod.mk.injEq] at H
    obtain ⟨rfl, rfl, rfl⟩ := H
    go_enter Try.func15, Try.ntmps15
    go_wp2_with (first | ((with_reducible refine gate_dst (N := 3) rfl ?_); refine box_event ?hg (N := 3) ?hd (cs := #[.slice A0_0 l0_0.length c0_0, .slice A0_1 l0_1.length c0_1]) (t := 31) ?hr ?_; (case hd => rfl); (case hg => rfl); (case hr => first | (go_simp; done) | (go_simp; rfl)); intro gb390 hg w45 hbox hb; have n0_ := Aside0.mk (below_step (by repeat (first | (with_reducible first | exact HB.out | apply bwA | apply pwN | apply bw1) | exact HB.out)) hb); have n1_ := Aside0.mk (hbox); have n2_ := Aside0.mk ((by rw [hg]; exact (below_size (by repeat (first | (with_reducible first | exact HB.out | apply bwA | apply pwN | apply bw1) | exact HB.out))) : w.heap.size ≤ gb390)); have n3_ := Aside0.mk (n2_.out); clear HB; have HB := n0_; have BK390 := n1_; have GW390 := n2_; have GE390 := n3_; clear n0_ n1_ n2_ n3_; clear hb hbox hg; have hcz46_0 : w45.cell? ⟨gb390, 0, none⟩ = some (.slice A0_0 l0_0.length c0_0) := (blk_cell BK390.out 0).trans rfl; have hcz46_1 : w45.cell? ⟨gb390, 1, none⟩ = some (.slice A0_1 l0_1.length c0_1) := (blk_cell BK390.out 1).trans rfl; have hfz46_0 := blk_frozen BK390.out 0; have hfz46_1 := blk_frozen BK390.out 1) | ((with_reducible refine gate_callee (f := 31) rfl ?_); refine goesL_ (some 17) rfl rfl Try.func31 (by kernel_rfl) rfl #[.agg #[.slice A0_0 l0_0.length c0_0, .slice A0_1 l0_1.length c0_1]] rfl (by (try simp only [List.map_toArray, List.map_cons, List.map_nil]); first | done | rfl | (simp only [List.length_drop, List.length_take]; rfl)) ?_; (with_reducible refine (impl_ValidSystem.calls _ _ l0_0 _ _ l0_1 true _ ?side1 ?side2 ?side3 ?side4 A4.out).mono ?_); (case side1 => repeat (first | exact (Kd.C_below HR0_0.out HB.out) | (with_reducible refine Kd.C_alloc ?_ _) | (with_reducible refine Kd.C_drewN ?_ _) | (with_reducible refine Kd.C_drew ?_))); (case side2 => exact HC0_0.out); (case side3 => repeat (first | exact (Kd.C_below HR0_1.out HB.out) | (with_reducible refine Kd.C_alloc ?_ _) | (with_reducible refine Kd.C_drewN ?_ _) | (with_reducible refine Kd.C_drew ?_))); (case side4 => exact HC0_1.out); rintro e w47 ⟨rfl, hb⟩; refine ⟨_, rfl, ?_⟩; have n0_ := Aside0.mk (blk_below (g := gb390) (by (with_reducible repeat (first | refine blk_drewN ?_ _ | refine blk_drew ?_ | refine blk_alloc ?_ _)); exact BK390.out) hb); have n1_ := Aside0.mk (below_step (by repeat (first | (with_reducible first | exact HB.out | apply bwA | apply pwN | apply bw1 | refine below_set ?_ GE390.out) | exact HB.out)) hb); clear BK390; clear HB; have BK390 := n0_; have HB := n1_; clear n0_ n1_; (try clear hb); (try clear hb2); (try clear hk); (try clear hi)) | ((with_reducible refine gate_callee (f := 32) rfl ?_); refine goesL_ (some 21) rfl rfl Try.func32 (by kernel_rfl) rfl #[.int .i64 a1, .int .i64 0, .int .i64 10000] rfl (by (try simp only [List.map_toArray, List.map_cons, List.map_nil]); first | done | rfl | (simp only [List.length_drop, List.length_take]; rfl)) ?_; (with_reducible refine (impl_within.calls a1 0 10000 true _ A6.out).mono ?_); rintro e w' ⟨rfl, ⟨nd, rfl⟩⟩; refine ⟨_, rfl, ?_⟩) | (go_at_call 32; (with_reducible refine (impl_within.calls a2 0 10000 false _ A8.out).mono ?_); rintro e w' ⟨rfl, ⟨nd, rfl⟩⟩))
    go_ret3
    exact ⟨by first | rfl | (simp [errW_none, errW_some, i64_w]; done) | (simp [errW_none, errW_some] <;> rfl) | (simp [*, errW_none, errW_some] <;> rfl), by repeat (first | (with_reducible first | exact HB.out | apply bwA | apply pwN | apply bw1 | refine below_set ?_ GE390.out) | exact HB.out)⟩
  ·replace c7 := Bool.eq_false_iff.mpr c7
   subst c7
   have H1 : (some (0, (⟨#[]⟩ : ByteArray), 2)) = some (r1, r2, r3) := by rw [if_neg (show ¬ (false = true) by decide)] at H; exact H
   clear H
   have H := H1
   clear H1
   simp only [Option.some.injEq, Prod.mk.injEq] at H
   obtain ⟨rfl, rfl, rfl⟩ := H
   go_enter Try.func15, Try.ntmps15
   go_wp2_with (first | ((with_reducible refine gate_dst (N := 3) rfl ?_); refine box_event ?hg (N := 3) ?hd (cs := #[.slice A0_0 l0_0.length c0_0, .slice A0_1 l0_1.length c0_1]) (t := 31) ?hr ?_; (case hd => rfl); (case hg => rfl); (case hr => first | (go_simp; done) | (go_simp; rfl)); intro gb390 hg w48 hbox hb; have n0_ := Aside0.mk (below_step (by repeat (first | (with_reducible first | exact HB.out | apply bwA | apply pwN | apply bw1) | exact HB.out)) hb); have n1_ := Aside0.mk (hbox); have n2_ := Aside0.mk ((by rw [hg]; exact (below_size (by repeat (first | (with_reducible first | exact HB.out | apply bwA | apply pwN | apply bw1) | exact HB.out))) : w.heap.size ≤ gb390)); have n3_ := Aside0.mk (n2_.out); clear HB; have HB := n0_; have BK390 := n1_; have GW390 := n2_; have GE390 := n3_; clear n0_ n1_ n2_ n3_; clear hb hbox hg; have hcz49_0 : w48.cell? ⟨gb390, 0, none⟩ = some (.slice A0_0 l0_0.length c0_0) := (blk_cell BK390.out 0).trans rfl; have hcz49_1 : w48.cell? ⟨gb390, 1, none⟩ = some (.slice A0_1 l0_1.length c0_1) := (blk_cell BK390.out 1).trans rfl; have hfz49_0 := blk_frozen BK390.out 0; have hfz49_1 := blk_frozen BK390.out 1) | ((with_reducible refine gate_callee (f := 31) rfl ?_); refine goesL_ (some 17) rfl rfl Try.func31 (by kernel_rfl) rfl #[.agg #[.slice A0_0 l0_0.length c0_0, .slice A0_1 l0_1.length c0_1]] rfl (by (try simp only [List.map_toArray, List.map_cons, List.map_nil]); first | done | rfl | (simp only [List.length_drop, List.length_take]; rfl)) ?_; (with_reducible refine (impl_ValidSystem.calls _ _ l0_0 _ _ l0_1 true _ ?side1 ?side2 ?side3 ?side4 A4.out).mono ?_); (case side1 => repeat (first | exact (Kd.C_below HR0_0.out HB.out) | (with_reducible refine Kd.C_alloc ?_ _) | (with_reducible refine Kd.C_drewN ?_ _) | (with_reducible refine Kd.C_drew ?_))); (case side2 => exact HC0_0.out); (case side3 => repeat (first | exact (Kd.C_below HR0_1.out HB.out) | (with_reducible refine Kd.C_alloc ?_ _) | (with_reducible refine Kd.C_drewN ?_ _) | (with_reducible refine Kd.C_drew ?_))); (case side4 => exact HC0_1.out); rintro e w50 ⟨rfl, hb⟩; refine ⟨_, rfl, ?_⟩; have n0_ := Aside0.mk (blk_below (g := gb390) (by (with_reducible repeat (first | refine blk_drewN ?_ _ | refine blk_drew ?_ | refine blk_alloc ?_ _)); exact BK390.out) hb); have n1_ := Aside0.mk (below_step (by repeat (first | (with_reducible first | exact HB.out | apply bwA | apply pwN | apply bw1 | refine below_set ?_ GE390.out) | exact HB.out)) hb); clear BK390; clear HB; have BK390 := n0_; have HB := n1_; clear n0_ n1_; (try clear hb); (try clear hb2); (try clear hk); (try clear hi)) | ((with_reducible refine gate_callee (f := 32) rfl ?_); refine goesL_ (some 21) rfl rfl Try.func32 (by kernel_rfl) rfl #[.int .i64 a1, .int .i64 0, .int .i64 10000] rfl (by (try simp only [List.map_toArray, List.map_cons, List.map_nil]); first | done | rfl | (simp only [List.length_drop, List.length_take]; rfl)) ?_; (with_reducible refine (impl_within.calls a1 0 10000 false _ A6.out).mono ?_); rintro e w' ⟨rfl, ⟨nd, rfl⟩⟩; refine ⟨_, rfl, ?_⟩))
   go_ret3
   exact ⟨by first | rfl | (simp [errW_none, errW_some, i64_w]; done) | (simp [errW_none, errW_some] <;> rfl) | (simp [*, errW_none, errW_some] <;> rfl), by repeat (first | (with_reducible first | exact HB.out | apply bwA | apply pwN | apply bw1 | refine below_set ?_ GE390.out) | exact HB.out)⟩
 ·replace c5 := Bool.eq_false_iff.mpr c5
  subst c5
  have H1 : (some (0, (⟨#[]⟩ : ByteArray), 1)) = some (r1, r2, r3) := by rw [if_neg (show ¬ (false = true) by decide)] at H; exact H
  clear H
  have H := H1
  clear H1
  simp only [Option.some.injEq, Prod.mk.injEq] at H
  obtain ⟨rfl, rfl, rfl⟩ := H
  go_enter Try.func15, Try.ntmps15
  go_wp2_with (first | ((with_reducible refine gate_dst (N := 3) rfl ?_); refine box_event ?hg (N := 3) ?hd (cs := #[.slice A0_0 l0_0.length c0_0, .slice A0_1 l0_1.length c0_1]) (t := 31) ?hr ?_; (case hd => rfl); (case hg => rfl); (case hr => first | (go_simp; done) | (go_simp; rfl)); intro gb390 hg w51 hbox hb; have n0_ := Aside0.mk (below_step (by repeat (first | (with_reducible first | exact HB.out | apply bwA | apply pwN | apply bw1) | exact HB.out)) hb); have n1_ := Aside0.mk (hbox); have n2_ := Aside0.mk ((by rw [hg]; exact (below_size (by repeat (first | (with_reducible first | exact HB.out | apply bwA | apply pwN | apply bw1) | exact HB.out))) : w.heap.size ≤ gb390)); have n3_ := Aside0.mk (n2_.out); clear HB; have HB := n0_; have BK390 := n1_; have GW390 := n2_; have GE390 := n3_; clear n0_ n1_ n2_ n3_; clear hb hbox hg; have hcz52_0 : w51.cell? ⟨gb390, 0, none⟩ = some (.slice A0_0 l0_0.length c0_0) := (blk_cell BK390.out 0).trans rfl; have hcz52_1 : w51.cell? ⟨gb390, 1, none⟩ = some (.slice A0_1 l0_1.length c0_1) := (blk_cell BK390.out 1).trans rfl; have hfz52_0 := blk_frozen BK390.out 0; have hfz52_1 := blk_frozen BK390.out 1) | ((with_reducible refine gate_callee (f := 31) rfl ?_); refine goesL_ (some 17) rfl rfl Try.func31 (by kernel_rfl) rfl #[.agg #[.slice A0_0 l0_0.length c0_0, .slice A0_1 l0_1.length c0_1]] rfl (by (try simp only [List.map_toArray, List.map_cons, List.map_nil]); first | done | rfl | (simp only [List.length_drop, List.length_take]; rfl)) ?_; (with_reducible refine (impl_ValidSystem.calls _ _ l0_0 _ _ l0_1 false _ ?side1 ?side2 ?side3 ?side4 A4.out).mono ?_); (case side1 => repeat (first | exact (Kd.C_below HR0_0.out HB.out) | (with_reducible refine Kd.C_alloc ?_ _) | (with_reducible refine Kd.C_drewN ?_ _) | (with_reducible refine Kd.C_drew ?_))); (case side2 => exact HC0_0.out); (case side3 => repeat (first | exact (Kd.C_below HR0_1.out HB.out) | (with_reducible refine Kd.C_alloc ?_ _) | (with_reducible refine Kd.C_drewN ?_ _) | (with_reducible refine Kd.C_drew ?_))); (case side4 => exact HC0_1.out); rintro e w53 ⟨rfl, hb⟩; refine ⟨_, rfl, ?_⟩; have n0_ := Aside0.mk (blk_below (g := gb390) (by (with_reducible repeat (first | refine blk_drewN ?_ _ | refine blk_drew ?_ | refine blk_alloc ?_ _)); exact BK390.out) hb); have n1_ := Aside0.mk (below_step (by repeat (first | (with_reducible first | exact HB.out | apply bwA | apply pwN | apply bw1 | refine below_set ?_ GE390.out) | exact HB.out)) hb); clear BK390; clear HB; have BK390 := n0_; have HB := n1_; clear n0_ n1_; (try clear hb); (try clear hb2); (try clear hk); (try clear hi)))
  go_ret3
  exact ⟨by first | rfl | (simp [errW_none, errW_some, i64_w]; done) | (simp [errW_none, errW_some] <;> rfl) | (simp [*, errW_none, errW_some] <;> rfl), by repeat (first | (with_reducible first | exact HB.out | apply bwA | apply pwN | apply bw1 | refine below_set ?_ GE390.out) | exact HB.out)⟩
end Go.Proofs.Ytlepbhlbooajmaa.Q
namespace Go.Proofs.Ytlepbhlbooajmaa.Pure
open Go.RowKit Go.Proofs.Ytlepbhlbooajmaa.Ext Go.Proofs.Ytlepbhlbooajmaa.Q Go.Proofs.YtlepbhlbooajmaaW.PrintWords Go.Proofs.YtlepbhlbooajmaaW.PrintLast Go.Proofs.YtlepbhlbooajmaaW.PrintMore
set_option linter.unusedVariables false
set_option linter.unusedSimpArgs false
def stepN (v : Nat → Int) (n : Nat) : Option Nat → Option Nat
 | none => if v n ≤ 16 then some n else none
 | some b => if v n ≤ 16 ∧ v b < v n then some n else some b
def bestN (v : Nat → Int) : Nat → Nat → Option Nat → Option Nat
 | 0, _, σ => σ
 | d + 1, n, σ => bestN v d (n + 1) (stepN v n σ)
def okN (v : Nat → Int) (h : Nat) (σ : Option Nat) : Prop := ∀ b, σ = some b → b ≤ h ∧ v b ≤ 16
theorem stepN_ok {v : Nat → Int} {h n : Nat} {σ : Option Nat} (hn : n ≤ h) (ho : okN v h σ) : okN v h (stepN v n σ) := by
 intro b hb
 cases σ with
 | none =>
  unfold stepN at hb
  dsimp only at hb
  split at hb
  ·obtain rfl := Option.some.inj hb; exact ⟨hn, by assumption⟩
  ·cases hb
 | some c =>
  unfold stepN at hb
  dsimp only at hb
  split at hb
  ·rename_i hc; obtain rfl := Option.some.inj hb; exact ⟨hn, hc.1⟩
  ·exact ho b hb
def resN (s : Sys) (h : Nat) : Option Nat → Int × ByteArray × Int
 | none => (0, noText, 6)
 | some b => ((b : Int), txt s (h + 1) b s.m, 0)
def iB : Option Nat → Int
 | none => 0
 | some b => (b : Int)
def iV (v : Nat → Int) : Option Nat → Int
 | none => -1
 | some b => v b
def sB : Option Nat → Int
 | none => -1
 | some b => (b : Int)
theorem impl_long_l0 {l0 : List Sg} {l1 : List P2} (h : Val l0 l1) (hi : Nat) (hh : hi ≤ 10000) :
  ∀ (d n k : Nat) (σ : Option Nat), n + d = hi + 1 → d + 700000 < k → okN (fun j => valT (sysOf l0 l1) j (sysOf l0 l1).m) hi σ →
   impl_LongestNumber.l0 k hi (tabT (sysOf l0 l1) (hi + 1)) (iB σ) (iV (fun j => valT (sysOf l0 l1) j (sysOf l0 l1).m) σ) n (partsL l0 l1) (nextT l0 l1) = some (resN (sysOf l0 l1) hi (bestN (fun j => valT (sysOf l0 l1) j (sysOf l0 l1).m) d n σ)) := by
 have hok := sysOf_ok h
 intro d
 induction d with
 | zero =>
  intro n k σ hn hK ho
  obtain ⟨k, rfl⟩ : ∃ k', k = k' + 1 := ⟨k - 1, by omega⟩
  unfold impl_LongestNumber.l0
  rw [if_neg (by omega)]
  cases σ with
  | none => rw [if_pos (show iV (fun j => valT (sysOf l0 l1) j (sysOf l0 l1).m) none < 0 from (by decide : (-1 : Int) < 0))]; rfl
  | some b =>
   obtain ⟨hb, hv⟩ := ho b rfl
   have hbd := (valT_bd (sysOf l0 l1) hok b (sysOf l0 l1).m (Nat.le_refl _)).1
   rw [if_neg (show ¬ iV _ (some b) < 0 by show ¬ valT (sysOf l0 l1) b (sysOf l0 l1).m < 0; omega), all_eq h _ (by omega), Option.bind_some]
   show (impl_builder_shortest.f k (partsL l0 l1) (nextT l0 l1) (tabT (sysOf l0 l1) (hi + 1)) (b : Int) (nxL (sysOf l0 l1) (sysOf l0 l1).m)).bind _ = _
   rw [short_eq _ hok _ _ (imp_of h) (hi + 1) (by omega) (hi + 1) b (sysOf l0 l1).m k (by omega) (by omega) (by omega) (Nat.le_refl _) hv (by omega), Option.bind_some]
   rfl
 | succ d ih =>
  intro n k σ hn hK ho
  obtain ⟨k, rfl⟩ : ∃ k', k = k' + 1 := ⟨k - 1, by omega⟩
  have hbd := valT_bd (sysOf l0 l1) hok n (sysOf l0 l1).m (Nat.le_refl _)
  have hstep := ih (n + 1) k (stepN (fun j => valT (sysOf l0 l1) j (sysOf l0 l1).m) n σ) (by omega) (by omega) (stepN_ok (by omega) ho)
  unfold impl_LongestNumber.l0
  rw [if_pos (by omega), fewest_eq _ hok (hi + 1) n (by omega), Option.bind_some, wsucc n (by omega)]
  show _ = some (resN (sysOf l0 l1) hi (bestN _ d (n + 1) (stepN _ n σ)))
  rw [← hstep]
  by_cases h16 : 16 < valT (sysOf l0 l1) n (sysOf l0 l1).m
  ·rw [if_pos h16, if_pos rfl]
   have e : stepN (fun j => valT (sysOf l0 l1) j (sysOf l0 l1).m) n σ = σ := by
    cases σ with
    | none => show (if _ then _ else _) = _; rw [if_neg (by show ¬ valT (sysOf l0 l1) n (sysOf l0 l1).m ≤ 16; omega)]
    | some b => show (if _ then _ else _) = _; rw [if_neg (by show ¬ (valT (sysOf l0 l1) n (sysOf l0 l1).m ≤ 16 ∧ _); omega)]
   rw [e]
  ·rw [if_neg h16, if_neg (by omega)]
   cases σ with
   | none =>
    have e : stepN (fun j => valT (sysOf l0 l1) j (sysOf l0 l1).m) n none = some n := by show (if _ then _ else _) = _; rw [if_pos (by show valT (sysOf l0 l1) n (sysOf l0 l1).m ≤ 16; omega)]
    rw [e, if_pos (show valT (sysOf l0 l1) n (sysOf l0 l1).m > iV _ none by show valT (sysOf l0 l1) n (sysOf l0 l1).m > -1; omega)]
    rfl
   | some b =>
    by_cases hc : valT (sysOf l0 l1) b (sysOf l0 l1).m < valT (sysOf l0 l1) n (sysOf l0 l1).m
    ·have e : stepN (fun j => valT (sysOf l0 l1) j (sysOf l0 l1).m) n (some b) = some n := by show (if _ then _ else _) = _; rw [if_pos ⟨by show valT (sysOf l0 l1) n (sysOf l0 l1).m ≤ 16; omega, hc⟩]
     rw [e, if_pos (show valT (sysOf l0 l1) n (sysOf l0 l1).m > iV (fun j => valT (sysOf l0 l1) j (sysOf l0 l1).m) (some b) from hc)]
     rfl
    ·have e : stepN (fun j => valT (sysOf l0 l1) j (sysOf l0 l1).m) n (some b) = some b := by show (if _ then _ else _) = _; rw [if_neg (fun h' => hc h'.2)]
     rw [e, if_neg (show ¬ valT (sysOf l0 l1) n (sysOf l0 l1).m > iV (fun j => valT (sysOf l0 l1) j (sysOf l0 l1).m) (some b) from hc)]
theorem spec_long_l0 {l0 : List Sg} {l1 : List P2} (h : Val l0 l1) (hi : Nat) (hh : hi ≤ 10000) :
  ∀ (d n k : Nat) (σ : Option Nat), n + d = hi + 1 → d + 700000 < k → okN (fun j => valT (sysOf l0 l1) j (sysOf l0 l1).m) hi σ →
   spec_LongestNumber.l0 k hi (piecesL l0 l1) (nextL (sysOf l0 l1)) (tabS (sysOf l0 l1) (hi + 1)) (sB σ) n = some (resN (sysOf l0 l1) hi (bestN (fun j => valT (sysOf l0 l1) j (sysOf l0 l1).m) d n σ)) := by
 have hok := sysOf_ok h
 have hlen := pieces_len l0 l1
 have hm : (sysOf l0 l1).m = l0.length + l1.length := rfl
 have hts := tabS_len (sysOf l0 l1) (hi + 1)
 intro d
 induction d with
 | zero =>
  intro n k σ hn hK ho
  obtain ⟨k, rfl⟩ : ∃ k', k = k' + 1 := ⟨k - 1, by omega⟩
  unfold spec_LongestNumber.l0
  rw [if_neg (by omega)]
  cases σ with
  | none => rw [if_pos (show sB none < 0 by decide)]; rfl
  | some b =>
   obtain ⟨hb, hv⟩ := ho b rfl
   rw [if_neg (show ¬ sB (some b) < 0 by show ¬ (b : Int) < 0; omega), hlen]
   have := first_eq _ hok _ _ (ref_of h) (hi + 1) (by omega) (hi + 1) b (sysOf l0 l1).m k (by omega) (by omega) (by omega) (Nat.le_refl _) (by omega)
   rw [hm] at this
   show (spec_l03First.f k (piecesL l0 l1) (nextL (sysOf l0 l1)) (tabS (sysOf l0 l1) (hi + 1)) (b : Int) ((l0.length + l1.length : Nat) : Int)).bind _ = _
   rw [this, Option.bind_some]
   rfl
 | succ d ih =>
  intro n k σ hn hK ho
  obtain ⟨k, rfl⟩ : ∃ k', k = k' + 1 := ⟨k - 1, by omega⟩
  have hstep := ih (n + 1) k (stepN (fun j => valT (sysOf l0 l1) j (sysOf l0 l1).m) n σ) (by omega) (by omega) (stepN_ok (by omega) ho)
  have hrl : ((tabS (sysOf l0 l1) (hi + 1)).getD (n : Int).toNat []).length = (sysOf l0 l1).m + 1 := len_tabS _ (by omega)
  have e0 : rd ((tabS (sysOf l0 l1) (hi + 1)).getD (n : Int).toNat []) ((piecesL l0 l1).length : Int) = valT (sysOf l0 l1) n (sysOf l0 l1).m := by rw [hlen]; exact rd_tabS _ (by omega)
  unfold spec_LongestNumber.l0
  delta rd_L11 rd_L12 rd_L15 rd_L16 rd_L18 rd_L5 rd_L6
  rw [if_pos (by omega), if_pos (by omega), if_pos (by omega), if_pos (by omega), if_pos (by omega), e0, wsucc n (by omega)]
  show _ = some (resN (sysOf l0 l1) hi (bestN _ d (n + 1) (stepN _ n σ)))
  rw [← hstep]
  by_cases h16 : valT (sysOf l0 l1) n (sysOf l0 l1).m ≤ 16
  ·rw [if_pos h16]
   cases σ with
   | none =>
    have e : stepN (fun j => valT (sysOf l0 l1) j (sysOf l0 l1).m) n none = some n := by show (if _ then _ else _) = _; rw [if_pos h16]
    rw [e, if_pos (show sB none < 0 by decide)]
    rfl
   | some b =>
    obtain ⟨hb, hv⟩ := ho b rfl
    have hrl2 : ((tabS (sysOf l0 l1) (hi + 1)).getD (sB (some b)).toNat []).length = (sysOf l0 l1).m + 1 := len_tabS _ (show b < hi + 1 by omega)
    have e1 : rd ((tabS (sysOf l0 l1) (hi + 1)).getD (sB (some b)).toNat []) ((piecesL l0 l1).length : Int) = valT (sysOf l0 l1) b (sysOf l0 l1).m := by rw [hlen]; exact rd_tabS _ (show b < hi + 1 by omega)
    have hsb : sB (some b) = (b : Int) := rfl
    rw [if_neg (by rw [hsb]; omega), if_pos (by rw [hsb]; omega), if_pos (by rw [hsb]; omega), if_pos (by rw [hrl2]; omega), e1]
    by_cases hc : valT (sysOf l0 l1) b (sysOf l0 l1).m < valT (sysOf l0 l1) n (sysOf l0 l1).m
    ·have e : stepN (fun j => valT (sysOf l0 l1) j (sysOf l0 l1).m) n (some b) = some n := by show (if _ then _ else _) = _; rw [if_pos ⟨h16, hc⟩]
     rw [e, if_pos hc]
     rfl
    ·have e : stepN (fun j => valT (sysOf l0 l1) j (sysOf l0 l1).m) n (some b) = some b := by show (if _ then _ else _) = _; rw [if_neg (fun h' => hc h'.2)]
     rw [e, if_neg hc]
  ·rw [if_neg h16]
   have e : stepN (fun j => valT (sysOf l0 l1) j (sysOf l0 l1).m) n σ = σ := by
    cases σ with
    | none => show (if _ then _ else _) = _; rw [if_neg h16]
    | some b => show (if _ then _ else _) = _; rw [if_neg (fun h' => h16 h'.1)]
   rw [e]
def longC (l0 : List Sg) (l1 : List P2) (a b : Int) : Int × ByteArray × Int :=
 if sysB l0 l1 = true then (if (0 ≤ a ∧ a ≤ 10000) ∧ (0 ≤ b ∧ b ≤ 10000) ∧ a ≤ b then resN (sysOf l0 l1) b.toNat (bestN (fun j => valT (sysOf l0 l1) j (sysOf l0 l1).m) (b.toNat + 1 - a.toNat) a.toNat none) else (0, noText, 2)) else (0, noText, 1)
theorem impl_long_eq {l0 : List Sg} {l1 : List P2} (hw : wfSys l0 l1) (a b : Int) {k : Nat} (hk : 5000000 < k) : impl_LongestNumber.f k l0 l1 a b = some (longC l0 l1 a b) := by
 unfold impl_LongestNumber.f longC impl_ValidSystem.f
 rw [if_pos hw, Option.bind_some]
 by_cases hv : sysB l0 l1 = true
 ·have h := val_of hv
  have hok := sysOf_ok h
  rw [if_pos hv, if_pos hv, within_f, Option.bind_some]
  by_cases ha : 0 ≤ a ∧ a ≤ 10000
  ·rw [if_pos (decide_eq_true ha), within_f, Option.bind_some]
   by_cases hb : 0 ≤ b ∧ b ≤ 10000
   ·rw [if_pos (decide_eq_true hb)]
    by_cases hab : a ≤ b
    ·rw [if_neg (by omega), if_pos ⟨ha, hb, hab⟩, builder_eq hw h (by omega), Option.bind_some]
     obtain ⟨x, rfl⟩ : ∃ x : Nat, a = (x : Int) := ⟨a.toNat, by omega⟩
     obtain ⟨y, rfl⟩ : ∃ y : Nat, b = (y : Int) := ⟨b.toNat, by omega⟩
     dsimp only
     rw [lengths_eq _ hok _ _ (imp_of h) y (by omega) (by omega), Option.bind_some]
     exact impl_long_l0 h y (by omega) (y + 1 - x) x k none (by omega) (by omega) (fun b hb => by cases hb)
    ·rw [if_pos (by omega), if_neg (fun h' => hab h'.2.2)]; rfl
   ·rw [if_neg (by simp [hb]), if_neg (fun h' => hb h'.2.1)]; rfl
  ·rw [if_neg (by simp [ha]), if_neg (fun h' => ha h'.1)]; rfl
 ·rw [if_neg hv, if_neg hv]; rfl
theorem spec_long_eq {l0 : List Sg} {l1 : List P2} (hw : wfSys l0 l1) (a b : Int) {k : Nat} (hk : 5000000 < k) : spec_LongestNumber.f k l0 l1 a b = some (longC l0 l1 a b) := by
 obtain ⟨k, rfl⟩ : ∃ k', k = k' + 1 := ⟨k - 1, by omega⟩
 have hj : spec_LongestNumber.j0 (k + 1) a b true l0 l1 = some (0, noText, 2) := by simp only [spec_LongestNumber.j0, if_true]; rfl
 unfold spec_LongestNumber.f longC spec_l03Ok.f
 rw [if_pos hw, Option.bind_some]
 by_cases hv : sysB l0 l1 = true
 ·have h := val_of hv
  have hok := sysOf_ok h
  rw [if_pos hv, if_pos hv, number_f, Option.bind_some]
  by_cases ha : 0 ≤ a ∧ a ≤ 10000
  ·rw [if_pos (decide_eq_true ha), number_f, Option.bind_some]
   by_cases hb : 0 ≤ b ∧ b ≤ 10000
   ·rw [if_pos (decide_eq_true hb)]
    by_cases hab : a ≤ b
    ·rw [decide_eq_false (by omega), if_pos ⟨ha, hb, hab⟩]
     obtain ⟨x, rfl⟩ : ∃ x : Nat, a = (x : Int) := ⟨a.toNat, by omega⟩
     obtain ⟨y, rfl⟩ : ∃ y : Nat, b = (y : Int) := ⟨b.toNat, by omega⟩
     simp only [spec_LongestNumber.j0, Bool.false_eq_true, if_false]
     rw [pieces_eq hw h (by omega), Option.bind_some, next_eq h (by omega), Option.bind_some, lens_eq _ hok _ _ (ref_of h) y (by omega) (by omega), Option.bind_some]
     exact spec_long_l0 h y (by omega) (y + 1 - x) x k none (by omega) (by omega) (fun b hb => by cases hb)
    ·rw [decide_eq_true (by omega), if_neg (fun h' => hab h'.2.2)]; exact hj
   ·rw [if_neg (by simp [hb]), if_neg (fun h' => hb h'.2.1)]; exact hj
  ·rw [if_neg (by simp [ha]), if_neg (fun h' => ha h'.1)]; exact hj
 ·rw [if_neg hv, if_neg hv]; rfl
end Go.Proofs.Ytlepbhlbooajmaa.Pure
namespace Go.Proofs.Ytlepbhlbooajmaa.Ext
end Go.Proofs.Ytlepbhlbooajmaa.Ext
namespace Go.Proofs.Ytlepbhlbooajmaa.Q
open Go.Proofs.Ytlepbhlbooajmaa.Ext
open Go.RowKit Go.Proofs.YtlepbhlbooajmaaW.PrintWords Go.Proofs.YtlepbhlbooajmaaW.PrintLast Go.Proofs.YtlepbhlbooajmaaW.PrintMore
attribute [local go_sem] max2_int min2_int max_two min_two max_three min_three max_four min_four
set_option linter.unusedVariables false
set_option linter.unusedSimpArgs false
def laws_FnExactLongestNumber.j0 : Nat → Bool → List (S113) → List (S104) → List (S102) → List (S104) → Option (Bool)
 | 0, _, _, _, _, _ => none
 | k + 1, x51, x410000, x410001, x427000, x427001 => if x51 = true then (some false) else ((laws_toSystem.f k x410000 x410001).bind fun bt430 => ((laws_eqSystem.f k x427000 x427001 bt430.1 bt430.2).bind fun t436 => (if t436 = true then (some true) else (some false))))
def laws_FnExactLongestNumber.f (k : Nat) (l0_0 : List (S113)) (l0_1 : List (S104)) (a1 : Int) (a2 : Int) : Option (Bool) := (laws_szSystem.f l0_0 l0_1 1048576).bind fun t410 => (if t410 < 0 then (some true) else ((laws_toSystem.f k l0_0 l0_1).bind fun bt411 => ((spec_LongestNumber.f k bt411.1 bt411.2 a1 a2).bind fun bt417 => ((laws_toSystem.f k l0_0 l0_1).bind fun bt420 => ((impl_LongestNumber.f k bt420.1 bt420.2 a1 a2).bind fun bt427 => (if bt427.1 = bt417.1 then (if bt427.2.1.toList = bt417.2.1.toList then (laws_FnExactLongestNumber.j0 k (bt427.2.2 != bt417.2.2) l0_0 l0_1 bt420.1 bt420.2) else (laws_FnExactLongestNumber.j0 k true l0_0 l0_1 bt420.1 bt420.2)) else (laws_FnExactLongestNumber.j0 k true l0_0 l0_1 bt420.1 bt420.2)))))))
set_option maxHeartbeats 8000000 in
set_option maxRecDepth 100000 in
theorem laws_FnExactLongestNumber.calls (k : Nat) (A0_0 : Option Addr) (c0_0 : Nat) (l0_0 : List (S113)) (A0_1 : Option Addr) (c0_1 : Nat) (l0_1 : List (S104)) (a1 : Int) (a2 : Int) (r : Bool) (w : World) (hr0_0 : Kd.C k113 w A0_0 l0_0.length l0_0) (hc0_0 : l0_0.length ≤ c0_0) (hr0_1 : Kd.C k104 w A0_1 l0_1.length l0_1) (hc0_1 : l0_1.length ≤ c0_1) (h : laws_FnExactLongestNumber.f k l0_0 l0_1 a1 a2 = some r) :
  Calls Try.prog 5 #[.agg #[.slice A0_0 l0_0.length c0_0, .slice A0_1 l0_1.length c0_1], .int .i64 a1, .int .i64 a2] w fun e w' => e = .returned (.bool r) ∧ Below w.heap.size w w' := by
 have hu25 := Try.underlying25
 have hu31 := Try.underlying31
 have HR0_0 := Aside0.mk hr0_0
 have HC0_0 := Aside0.mk hc0_0
 clear hr0_0 hc0_0
 have HR0_1 := Aside0.mk hr0_1
 have HC0_1 := Aside0.mk hc0_1
 clear hr0_1 hc0_1
 have HB := Aside0.mk (Below.refl w.heap.size w)
 have H : ((laws_szSystem.f l0_0 l0_1 1048576).bind fun t410 => (if t410 < 0 then (some true) else ((laws_toSystem.f k l0_0 l0_1).bind fun bt411 => ((spec_LongestNumber.f k bt411.1 bt411.2 a1 a2).bind fun bt417 => ((laws_toSystem.f k l0_0 l0_1).bind fun bt420 => ((impl_LongestNumber.f k bt420.1 bt420.2 a1 a2).bind fun bt427 => (if bt427.1 = bt417.1 then (if bt427.2.1.toList = bt417.2.1.toList then (laws_FnExactLongestNumber.j0 k (bt427.2.2 != bt417.2.2) l0_0 l0_1 bt420.1 bt420.2) else (laws_FnExactLongestNumber.j0 k true l0_0 l0_1 bt420.1 bt420.2)) else (laws_FnExactLongestNumber.j0 k true l0_0 l0_1 bt420.1 bt420.2)))))))) = some r := h
 clear h
 replace H := Option.bind_eq_some_iff.mp H
 obtain ⟨t410, A40, H⟩ := H
 (try dsimp only at H)
 have A4 := Aside0.mk A40
 clear A40
 by_cases c5 : t410 < 0
 ·rw [if_pos c5] at H
  have c5b0 : decide (t410 < 0) = true := decide_eq_true c5
  clear c5
  obtain rfl := Option.some.inj H
  go_enter Try.func5, Try.ntmps5
  go_wp2_with (first | ((with_reducible refine gate_dst (N := 3) rfl ?_); refine box_event ?hg (N := 3) ?hd (cs := #[.slice A0_0 l0_0.length c0_0, .slice A0_1 l0_1.length c0_1]) (t := 25) ?hr ?_; (case hd => rfl); (case hg => rfl); (case hr => first | (go_simp; done) | (go_simp; rfl)); intro gb409 hg w6 hbox hb; have n0_ := Aside0.mk (below_step (by repeat (first | (with_reducible first | exact HB.out | apply bwA | apply pwN | apply bw1) | exact HB.out)) hb); have n1_ := Aside0.mk (hbox); have n2_ := Aside0.mk ((by rw [hg]; exact (below_size (by repeat (first | (with_reducible first | exact HB.out | apply bwA | apply pwN | apply bw1) | exact HB.out))) : w.heap.size ≤ gb409)); have n3_ := Aside0.mk (n2_.out); clear HB; have HB := n0_; have BK409 := n1_; have GW409 := n2_; have GE409 := n3_; clear n0_ n1_ n2_ n3_; clear hb hbox hg; have hcz7_0 : w6.cell? ⟨gb409, 0, none⟩ = some (.slice A0_0 l0_0.length c0_0) := (blk_cell BK409.out 0).trans rfl; have hcz7_1 : w6.cell? ⟨gb409, 1, none⟩ = some (.slice A0_1 l0_1.length c0_1) := (blk_cell BK409.out 1).trans rfl; have hfz7_0 := blk_frozen BK409.out 0; have hfz7_1 := blk_frozen BK409.out 1) | ((with_reducible refine gate_callee (f := 7) rfl ?_); refine goesL_ (some 17) rfl rfl Try.func7 (by kernel_rfl) rfl #[.agg #[.slice A0_0 l0_0.length c0_0, .slice A0_1 l0_1.length c0_1], .int .i64 1048576] rfl (by (try simp only [List.map_toArray, List.map_cons, List.map_nil]); first | done | rfl | (simp only [List.length_drop, List.length_take]; rfl)) ?_; (with_reducible refine (laws_szSystem.calls _ _ l0_0 _ _ l0_1 1048576 t410 _ ?side1 ?side2 ?side3 ?side4 A4.out).mono ?_); (case side1 => repeat (first | exact (Kd.C_below HR0_0.out HB.out) | (with_reducible refine Kd.C_alloc ?_ _) | (with_reducible refine Kd.C_drewN ?_ _) | (with_reducible refine Kd.C_drew ?_))); (case side2 => exact HC0_0.out); (case side3 => repeat (first | exact (Kd.C_below HR0_1.out HB.out) | (with_reducible refine Kd.C_alloc ?_ _) | (with_reducible refine Kd.C_drewN ?_ _) | (with_reducible refine Kd.C_drew ?_))); (case side4 => exact HC0_1.out); rintro e w8 ⟨rfl, hb⟩; refine ⟨_, rfl, ?_⟩; have n0_ := Aside0.mk (blk_below (g := gb409) (by (with_reducible repeat (first | refine blk_drewN ?_ _ | refine blk_drew ?_ | refine blk_alloc ?_ _)); exact BK409.out) hb); have n1_ := Aside0.mk (below_step (by repeat (first | (with_reducible first | exact HB.out | apply bwA | apply pwN | apply bw1 | refine below_set ?_ GE409.out) | exact HB.out)) hb); clear BK409; clear HB; have BK409 := n0_; have HB := n1_; clear n0_ n1_; (try clear hb); (try clear hb2); (try clear hk); (try clear hi)))
  go_ret
  exact ⟨by first | rfl | (simp [errW_none, errW_some, i64_w]; done) | (simp [errW_none, errW_some] <;> rfl) | (simp [*, errW_none, errW_some] <;> rfl), by repeat (first | (with_reducible first | exact HB.out | apply bwA | apply pwN | apply bw1 | refine below_set ?_ GE409.out) | exact HB.out)⟩
 ·rw [if_neg c5] at H
  have c5b0 : decide (t410 < 0) = false := decide_eq_false c5
  clear c5
  replace H := Option.bind_eq_some_iff.mp H
  obtain ⟨⟨t411, t414⟩, A90, H⟩ := H
  (try dsimp only at H)
  have A9 := Aside0.mk A90
  clear A90
  replace H := Option.bind_eq_some_iff.mp H
  obtain ⟨⟨t417, t418, t419⟩, A100, H⟩ := H
  (try dsimp only at H)
  have A10 := Aside0.mk A100
  clear A100
  replace H := Option.bind_eq_some_iff.mp H
  obtain ⟨⟨t420, t423⟩, A110, H⟩ := H
  (try dsimp only at H)
  have A11 := Aside0.mk A110
  clear A110
  replace H := Option.bind_eq_some_iff.mp H
  obtain ⟨⟨t427, t428, t429⟩, A120, H⟩ := H
  (try dsimp only at H)
  have A12 := Aside0.mk A120
  clear A120
  have HC13 := Aside0.mk H
  clear H
  go_enter Try.func5, Try.ntmps5
  go_upto_region 8 with (first | ((with_reducible refine gate_dst (N := 3) rfl ?_); refine box_event ?hg (N := 3) ?hd (cs := #[.slice A0_0 l0_0.length c0_0, .slice A0_1 l0_1.length c0_1]) (t := 25) ?hr ?_; (case hd => rfl); (case hg => rfl); (case hr => first | (go_simp; done) | (go_simp; rfl)); intro gb409 hg w14 hbox hb; have n0_ := Aside0.mk (below_step (by repeat (first | (with_reducible first | exact HB.out | apply bwA | apply pwN | apply bw1) | exact HB.out)) hb); have n1_ := Aside0.mk (hbox); have n2_ := Aside0.mk ((by rw [hg]; exact (below_size (by repeat (first | (with_reducible first | exact HB.out | apply bwA | apply pwN | apply bw1) | exact HB.out))) : w.heap.size ≤ gb409)); have n3_ := Aside0.mk (n2_.out); clear HB; have HB := n0_; have BK409 := n1_; have GW409 := n2_; have GE409 := n3_; clear n0_ n1_ n2_ n3_; clear hb hbox hg; have hcz15_0 : w14.cell? ⟨gb409, 0, none⟩ = some (.slice A0_0 l0_0.length c0_0) := (blk_cell BK409.out 0).trans rfl; have hcz15_1 : w14.cell? ⟨gb409, 1, none⟩ = some (.slice A0_1 l0_1.length c0_1) := (blk_cell BK409.out 1).trans rfl; have hfz15_0 := blk_frozen BK409.out 0; have hfz15_1 := blk_frozen BK409.out 1) | ((with_reducible refine gate_callee (f := 7) rfl ?_); refine goesL_ (some 17) rfl rfl Try.func7 (by kernel_rfl) rfl #[.agg #[.slice A0_0 l0_0.length c0_0, .slice A0_1 l0_1.length c0_1], .int .i64 1048576] rfl (by (try simp only [List.map_toArray, List.map_cons, List.map_nil]); first | done | rfl | (simp only [List.length_drop, List.length_take]; rfl)) ?_; (with_reducible refine (laws_szSystem.calls _ _ l0_0 _ _ l0_1 1048576 t410 _ ?side1 ?side2 ?side3 ?side4 A4.out).mono ?_); (case side1 => repeat (first | exact (Kd.C_below HR0_0.out HB.out) | (with_reducible refine Kd.C_alloc ?_ _) | (with_reducible refine Kd.C_drewN ?_ _) | (with_reducible refine Kd.C_drew ?_))); (case side2 => exact HC0_0.out); (case side3 => repeat (first | exact (Kd.C_below HR0_1.out HB.out) | (with_reducible refine Kd.C_alloc ?_ _) | (with_reducible refine Kd.C_drewN ?_ _) | (with_reducible refine Kd.C_drew ?_))); (case side4 => exact HC0_1.out); rintro e w16 ⟨rfl, hb⟩; refine ⟨_, rfl, ?_⟩; have n0_ := Aside0.mk (blk_below (g := gb409) (by (with_reducible repeat (first | refine blk_drewN ?_ _ | refine blk_drew ?_ | refine blk_alloc ?_ _)); exact BK409.out) hb); have n1_ := Aside0.mk (below_step (by repeat (first | (with_reducible first | exact HB.out | apply bwA | apply pwN | apply bw1 | refine below_set ?_ GE409.out) | exact HB.out)) hb); clear BK409; clear HB; have BK409 := n0_; have HB := n1_; clear n0_ n1_; (try clear hb); (try clear hb2); (try clear hk); (try clear hi); have hcz17_0 : w16.cell? ⟨gb409, 0, none⟩ = some (.slice A0_0 l0_0.length c0_0) := (blk_cell BK409.out 0).trans rfl; have hcz17_1 : w16.cell? ⟨gb409, 1, none⟩ = some (.slice A0_1 l0_1.length c0_1) := (blk_cell BK409.out 1).trans rfl; have hfz17_0 := blk_frozen BK409.out 0; have hfz17_1 := blk_frozen BK409.out 1) | ((with_reducible refine gate_callee (f := 9) rfl ?_); refine goesL_ (some 22) rfl rfl Try.func9 (by kernel_rfl) rfl #[.agg #[.slice A0_0 l0_0.length c0_0, .slice A0_1 l0_1.length c0_1]] rfl (by (try simp only [List.map_toArray, List.map_cons, List.map_nil]); first | done | rfl | (simp only [List.length_drop, List.length_take]; rfl)) ?_; (with_reducible refine (laws_toSystem.calls k _ _ l0_0 _ _ l0_1 t411 t414 _ ?side1 ?side2 ?side3 ?side4 A9.out).mono ?_); (case side1 => repeat (first | exact (Kd.C_below HR0_0.out HB.out) | (with_reducible refine Kd.C_alloc ?_ _) | (with_reducible refine Kd.C_drewN ?_ _) | (with_reducible refine Kd.C_drew ?_))); (case side2 => exact HC0_0.out); (case side3 => repeat (first | exact (Kd.C_below HR0_1.out HB.out) | (with_reducible refine Kd.C_alloc ?_ _) | (with_reducible refine Kd.C_drewN ?_ _) | (with_reducible refine Kd.C_drew ?_))); (case side4 => exact HC0_1.out); rintro e w18 ⟨v412, v415, rfl, ho0, ho1, hb⟩; refine ⟨_, rfl, ?_⟩; have n0_ := Aside0.mk (Kd.R_lower ho0 (below_size (by repeat (first | (with_reducible first | exact HB.out | apply bwA | apply pwN | apply bw1 | refine below_set ?_ GE409.out) | exact HB.out)))); have n1_ := Aside0.mk (Kd.R_lower ho1 (below_size (by repeat (first | (with_reducible first | exact HB.out | apply bwA | apply pwN | apply bw1 | refine below_set ?_ GE409.out) | exact HB.out)))); have n2_ := Aside0.mk (blk_below (g := gb409) (by (with_reducible repeat (first | refine blk_drewN ?_ _ | refine blk_drew ?_ | refine blk_alloc ?_ _)); exact BK409.out) hb); have n3_ := Aside0.mk (below_step (by repeat (first | (with_reducible first | exact HB.out | apply bwA | apply pwN | apply bw1 | refine below_set ?_ GE409.out) | exact HB.out)) hb); clear BK409; clear HB; have HO413 := n0_; have HO416 := n1_; have BK409 := n2_; have HB := n3_; clear n0_ n1_ n2_ n3_; (try clear hb); (try clear hb2); (try clear hk); (try clear hi); (try clear ho0); (try clear ho1); obtain ⟨Ao19, co19, eo19⟩ := Kd.R_slice HO413.out; subst eo19; obtain ⟨Ao20, co20, eo20⟩ := Kd.R_slice HO416.out; subst eo20) | ((with_reducible refine gate_callee (f := 14) rfl ?_); refine goesL_ (some 25) rfl rfl Try.func14 (by kernel_rfl) rfl #[.agg #[.slice Ao19 t411.length co19, .slice Ao20 t414.length co20], .int .i64 a1, .int .i64 a2] rfl (by (try simp only [List.map_toArray, List.map_cons, List.map_nil]); first | done | rfl | (simp only [List.length_drop, List.length_take]; rfl)) ?_; (with_reducible refine (spec_LongestNumber.calls k _ _ t411 _ _ t414 a1 a2 t417 t418 t419 _ ?side1 ?side2 ?side3 ?side4 A10.out).mono ?_); (case side1 => repeat (first | exact (Kd.R_reads' HO413.out).2.2 | (with_reducible refine Kd.C_alloc ?_ _) | (with_reducible refine Kd.C_drewN ?_ _) | (with_reducible refine Kd.C_drew ?_))); (case side2 => exact (Kd.R_reads' HO413.out).2.1); (case side3 => repeat (first | exact (Kd.R_reads' HO416.out).2.2 | (with_reducible refine Kd.C_alloc ?_ _) | (with_reducible refine Kd.C_drewN ?_ _) | (with_reducible refine Kd.C_drew ?_))); (case side4 => exact (Kd.R_reads' HO416.out).2.1); rintro e w21 ⟨rfl, hb⟩; refine ⟨_, rfl, ?_⟩; have n0_ := Aside0.mk (Kd.R_below (by (with_reducible repeat (first | apply Kd.R_alloc | apply Kd.R_drewN | apply Kd.R_drew)); exact HO413.out) hb); have n1_ := Aside0.mk (Kd.R_below (by (with_reducible repeat (first | apply Kd.R_alloc | apply Kd.R_drewN | apply Kd.R_drew)); exact HO416.out) hb); have n2_ := Aside0.mk (blk_below (g := gb409) (by (with_reducible repeat (first | refine blk_drewN ?_ _ | refine blk_drew ?_ | refine blk_alloc ?_ _)); exact BK409.out) hb); have n3_ := Aside0.mk (below_step (by repeat (first | (with_reducible first | exact HB.out | apply bwA | apply pwN | apply bw1 | refine below_set ?_ GE409.out) | exact HB.out)) hb); clear HO413; clear HO416; clear BK409; clear HB; have HO413 := n0_; have HO416 := n1_; have BK409 := n2_; have HB := n3_; clear n0_ n1_ n2_ n3_; (try clear hb); (try clear hb2); (try clear hk); (try clear hi); have hcz22_0 : w21.cell? ⟨gb409, 0, none⟩ = some (.slice A0_0 l0_0.length c0_0) := (blk_cell BK409.out 0).trans rfl; have hcz22_1 : w21.cell? ⟨gb409, 1, none⟩ = some (.slice A0_1 l0_1.length c0_1) := (blk_cell BK409.out 1).trans rfl; have hfz22_0 := blk_frozen BK409.out 0; have hfz22_1 := blk_frozen BK409.out 1) | ((with_reducible refine gate_callee (f := 9) rfl ?_); refine goesL_ (some 30) rfl rfl Try.func9 (by kernel_rfl) rfl #[.agg #[.slice A0_0 l0_0.length c0_0, .slice A0_1 l0_1.length c0_1]] rfl (by (try simp only [List.map_toArray, List.map_cons, List.map_nil]); first | done | rfl | (simp only [List.length_drop, List.length_take]; rfl)) ?_; (with_reducible refine (laws_toSystem.calls k _ _ l0_0 _ _ l0_1 t420 t423 _ ?side1 ?side2 ?side3 ?side4 A11.out).mono ?_); (case side1 => repeat (first | exact (Kd.C_below HR0_0.out HB.out) | (with_reducible refine Kd.C_alloc ?_ _) | (with_reducible refine Kd.C_drewN ?_ _) | (with_reducible refine Kd.C_drew ?_))); (case side2 => exact HC0_0.out); (case side3 => repeat (first | exact (Kd.C_below HR0_1.out HB.out) | (with_reducible refine Kd.C_alloc ?_ _) | (with_reducible refine Kd.C_drewN ?_ _) | (with_reducible refine Kd.C_drew ?_))); (case side4 => exact HC0_1.out); rintro e w23 ⟨v421, v424, rfl, ho0, ho1, hb⟩; refine ⟨_, rfl, ?_⟩; have n0_ := Aside0.mk (Kd.R_elder' (by (with_reducible repeat (first | apply Kd.R_alloc | apply Kd.R_drewN | apply Kd.R_drew)); exact HO413.out) (Kd.R_base ho0) hb); have n1_ := Aside0.mk (Kd.R_elder' (by (with_reducible repeat (first | apply Kd.R_alloc | apply Kd.R_drewN | apply Kd.R_drew)); exact HO416.out) (Kd.R_base ho1) hb); have n2_ := Aside0.mk (Kd.R_lower (Kd.R_new' ho0 (Kd.R_lt (by (with_reducible repeat (first | apply Kd.R_alloc | apply Kd.R_drewN | apply Kd.R_drew)); exact HO413.out))) (below_size (by repeat (first | (with_reducible first | exact HB.out | apply bwA | apply pwN | apply bw1 | refine below_set ?_ GE409.out) | exact HB.out)))); have n3_ := Aside0.mk (Kd.R_lower (Kd.R_new' ho1 (Kd.R_lt (by (with_reducible repeat (first | apply Kd.R_alloc | apply Kd.R_drewN | apply Kd.R_drew)); exact HO416.out))) (below_size (by repeat (first | (with_reducible first | exact HB.out | apply bwA | apply pwN | apply bw1 | refine below_set ?_ GE409.out) | exact HB.out)))); have n4_ := Aside0.mk (blk_below (g := gb409) (by (with_reducible repeat (first | refine blk_drewN ?_ _ | refine blk_drew ?_ | refine blk_alloc ?_ _)); exact BK409.out) hb); have n5_ := Aside0.mk (below_step (by repeat (first | (with_reducible first | exact HB.out | apply bwA | apply pwN | apply bw1 | refine below_set ?_ GE409.out) | exact HB.out)) hb); clear HO413; clear HO416; clear BK409; clear HB; have HO413 := n0_; have HO416 := n1_; have HO422 := n2_; have HO425 := n3_; have BK409 := n4_; have HB := n5_; clear n0_ n1_ n2_ n3_ n4_ n5_; (try clear hb); (try clear hb2); (try clear hk); (try clear hi); (try clear ho0); (try clear ho1)) | ((with_reducible refine gate_dst (N := 11) rfl ?_); refine box_event ?hg (N := 11) ?hd (cs := #[.slice none 0 0, .slice none 0 0]) (t := 31) ?hr ?_; (case hd => rfl); (case hg => rfl); (case hr => first | (go_simp; done) | (go_simp; rfl)); intro gb426 hg w24 hbox hb; have n0_ := Aside0.mk (Kd.R_below (by (with_reducible repeat (first | apply Kd.R_alloc | apply Kd.R_drewN | apply Kd.R_drew)); exact HO413.out) hb); have n1_ := Aside0.mk (Kd.R_below (by (with_reducible repeat (first | apply Kd.R_alloc | apply Kd.R_drewN | apply Kd.R_drew)); exact HO416.out) hb); have n2_ := Aside0.mk (Kd.R_below (by (with_reducible repeat (first | apply Kd.R_alloc | apply Kd.R_drewN | apply Kd.R_drew)); exact HO422.out) hb); have n3_ := Aside0.mk (Kd.R_below (by (with_reducible repeat (first | apply Kd.R_alloc | apply Kd.R_drewN | apply Kd.R_drew)); exact HO425.out) hb); have n4_ := Aside0.mk (blk_below (g := gb409) (by (with_reducible repeat (first | refine blk_drewN ?_ _ | refine blk_drew ?_ | refine blk_alloc ?_ _)); exact BK409.out) hb); have n5_ := Aside0.mk (below_step (by repeat (first | (with_reducible first | exact HB.out | apply bwA | apply pwN | apply bw1 | refine below_set ?_ GE409.out) | exact HB.out)) hb); have n6_ := Aside0.mk (hbox); have n7_ := Aside0.mk ((by rw [hg]; exact (below_size (by repeat (first | (with_reducible first | exact HB.out | apply bwA | apply pwN | apply bw1 | refine below_set ?_ GE409.out) | exact HB.out))) : w.heap.size ≤ gb426)); have n8_ := Aside0.mk (n7_.out); have n9_ := Aside0.mk ((by rw [hg]; exact Nat.ne_of_lt (blk_lt (g := gb409) (by (with_reducible repeat (first | refine blk_drewN ?_ _ | refine blk_drew ?_ | refine blk_alloc ?_ _)); exact BK409.out)) : gb409 ≠ gb426)); have n10_ := Aside0.mk ((Ne.symm n9_.out)); clear HO413; clear HO416; clear HO422; clear HO425; clear BK409; clear HB; have HO413 := n0_; have HO416 := n1_; have HO422 := n2_; have HO425 := n3_; have BK409 := n4_; have HB := n5_; have BK426 := n6_; have GW426 := n7_; have GE426 := n8_; have NB409_426 := n9_; have NB426_409 := n10_; clear n0_ n1_ n2_ n3_ n4_ n5_ n6_ n7_ n8_ n9_ n10_; clear hb hbox hg; obtain ⟨Ao25, co25, eo25⟩ := Kd.R_slice HO422.out; subst eo25; have hnb26 := NB426_409.out; have hnc26 := NB409_426.out; have hcz27_0 : w24.cell? ⟨gb426, 0, none⟩ = some (.slice none 0 0) := (blk_cell BK426.out 0).trans rfl; have hcz27_1 : w24.cell? ⟨gb426, 1, none⟩ = some (.slice none 0 0) := (blk_cell BK426.out 1).trans rfl; have hfz27_0 := blk_frozen BK426.out 0; have hfz27_1 := blk_frozen BK426.out 1; obtain ⟨Ao28, co28, eo28⟩ := Kd.R_slice HO425.out; subst eo28) | ((with_reducible refine gate_callee (f := 15) rfl ?_); refine goesL_ (some 35) rfl rfl Try.func15 (by kernel_rfl) rfl #[.agg #[.slice Ao25 t420.length co25, .slice Ao28 t423.length co28], .int .i64 a1, .int .i64 a2] rfl (by (try simp only [List.map_toArray, List.map_cons, List.map_nil]); first | done | rfl | (simp only [List.length_drop, List.length_take]; rfl)) ?_; (with_reducible refine (impl_LongestNumber.calls k _ _ t420 _ _ t423 a1 a2 t427 t428 t429 _ ?side1 ?side2 ?side3 ?side4 A12.out).mono ?_); (case side1 => refine (Kd.R_reads' (e := 102) (base := w.heap.size) (ok := fun k_ => (True ∧ some k_ ≠ (.slice Ao19 t411.length co19 : Value).ownBlock)) (n := t420.length) (c := co25) ?_).2.2; exact (by (with_reducible repeat (first | apply Kd.R_alloc | apply Kd.R_drewN | apply Kd.R_drew)); exact (Kd.R_mono (Kd.R_far (p := ⟨gb426, 1, none⟩) (Kd.R_far (p := ⟨gb426, 0, none⟩) (Kd.R_types HO422.out BK426.out (by decide)) (fun _ hk => hk.2) (.slice Ao25 t420.length co25)) (fun _ hk => hk.2) (.slice Ao28 t423.length co28)) (fun _ h_ => h_.1)))); (case side2 => exact (Kd.R_reads' HO422.out).2.1); (case side3 => refine (Kd.R_reads' (e := 104) (base := w.heap.size) (ok := fun k_ => (True ∧ some k_ ≠ (.slice Ao20 t414.length co20 : Value).ownBlock)) (n := t423.length) (c := co28) ?_).2.2; exact (by (with_reducible repeat (first | apply Kd.R_alloc | apply Kd.R_drewN | apply Kd.R_drew)); exact (Kd.R_mono (Kd.R_far (p := ⟨gb426, 1, none⟩) (Kd.R_far (p := ⟨gb426, 0, none⟩) (Kd.R_types HO425.out BK426.out (by decide)) (fun _ hk => hk.2) (.slice Ao25 t420.length co25)) (fun _ hk => hk.2) (.slice Ao28 t423.length co28)) (fun _ h_ => h_.1)))); (case side4 => exact (Kd.R_reads' HO425.out).2.1); rintro e w29 ⟨rfl, hb⟩; refine ⟨_, rfl, ?_⟩; have n0_ := Aside0.mk (Kd.R_below (by (with_reducible repeat (first | apply Kd.R_alloc | apply Kd.R_drewN | apply Kd.R_drew)); exact (Kd.R_mono (Kd.R_far (p := ⟨gb426, 1, none⟩) (Kd.R_far (p := ⟨gb426, 0, none⟩) (Kd.R_types HO413.out BK426.out (by decide)) (fun _ hk => hk.2) (.slice Ao25 t420.length co25)) (fun _ hk => hk.2) (.slice Ao28 t423.length co28)) (fun _ h_ => h_.1))) hb); have n1_ := Aside0.mk (Kd.R_below (by (with_reducible repeat (first | apply Kd.R_alloc | apply Kd.R_drewN | apply Kd.R_drew)); exact (Kd.R_mono (Kd.R_far (p := ⟨gb426, 1, none⟩) (Kd.R_far (p := ⟨gb426, 0, none⟩) (Kd.R_types HO416.out BK426.out (by decide)) (fun _ hk => hk.2) (.slice Ao25 t420.length co25)) (fun _ hk => hk.2) (.slice Ao28 t423.length co28)) (fun _ h_ => h_.1))) hb); have n2_ := Aside0.mk (Kd.R_below (by (with_reducible repeat (first | apply Kd.R_alloc | apply Kd.R_drewN | apply Kd.R_drew)); exact (Kd.R_mono (Kd.R_far (p := ⟨gb426, 1, none⟩) (Kd.R_far (p := ⟨gb426, 0, none⟩) (Kd.R_types HO422.out BK426.out (by decide)) (fun _ hk => hk.2) (.slice Ao25 t420.length co25)) (fun _ hk => hk.2) (.slice Ao28 t423.length co28)) (fun _ h_ => h_.1))) hb); have n3_ := Aside0.mk (Kd.R_below (by (with_reducible repeat (first | apply Kd.R_alloc | apply Kd.R_drewN | apply Kd.R_drew)); exact (Kd.R_mono (Kd.R_far (p := ⟨gb426, 1, none⟩) (Kd.R_far (p := ⟨gb426, 0, none⟩) (Kd.R_types HO425.out BK426.out (by decide)) (fun _ hk => hk.2) (.slice Ao25 t420.length co25)) (fun _ hk => hk.2) (.slice Ao28 t423.length co28)) (fun _ h_ => h_.1))) hb); have n4_ := Aside0.mk (blk_below (g := gb409) (blk_far (p := ⟨gb426, _, none⟩) (blk_far (p := ⟨gb426, _, none⟩) BK409.out NB409_426.out _) NB409_426.out _) hb); have n5_ := Aside0.mk (blk_below (g := gb426) (blk_put (cs := #[.slice Ao25 t420.length co25, .slice none 0 0]) (blk_put (cs := #[.slice none 0 0, .slice none 0 0]) BK426.out 0 _ rfl) 1 _ rfl) hb); have n6_ := Aside0.mk (below_step (by repeat (first | (with_reducible first | exact HB.out | apply bwA | apply pwN | apply bw1 | refine below_set ?_ GE409.out | refine below_set ?_ GE426.out) | exact HB.out)) hb); clear HO413; clear HO416; clear HO422; clear HO425; clear BK409; clear BK426; clear HB; have HO413 := n0_; have HO416 := n1_; have HO422 := n2_; have HO425 := n3_; have BK409 := n4_; have BK426 := n5_; have HB := n6_; clear n0_ n1_ n2_ n3_ n4_ n5_ n6_; (try clear hb); (try clear hb2); (try clear hk); (try clear hi)))
  (try simp only [Act.put, List.setIfInBounds_toArray, List.set_cons_zero, List.set_cons_succ])
  go_cut [51] (fun v51 wc => ∃ (kq : Nat) (x51_12 : Bool), v51 = .bool x51_12 ∧ Aside0 (laws_FnExactLongestNumber.j0 kq x51_12 l0_0 l0_1 t420 t423 = some r) ∧ Aside0 (kq ≤ k) ∧ Aside0 (Kd.R k102 102 wc w.heap.size (fun _ => True) (.slice Ao25 t420.length co25) t420) ∧ Aside0 (Kd.R k104 104 wc w.heap.size (fun _ => True) (.slice Ao28 t423.length co28) t423) ∧ Aside0 (wc.heap[gb409]? = some (.cells #[(.slice A0_0 l0_0.length c0_0), (.slice A0_1 l0_1.length c0_1)] 25 (0, 0))) ∧ Aside0 (wc.heap[gb426]? = some (.cells #[(.slice Ao25 t420.length co25), (.slice Ao28 t423.length co28)] 31 (0, 0))) ∧ Aside0 (Below w.heap.size w wc))
  case first =>
   have H := HC13.out
   clear HC13
   by_cases c30 : t427 = t417
   ·rw [if_pos c30] at H
    have c30b0 : (t427 == t417) = true := beq_iff_eq.mpr c30
    have c30b1 : (t427 != t417) = false := bne_eq_false_iff_eq.mpr c30
    clear c30
    (first | rw [c30b0] | (simp only [i64_w, i32_w]; rw [c30b0]) | skip)
    by_cases c31 : t428.toList = t418.toList
    ·rw [if_pos c31] at H
     have c31b0 : (t428.toList == t418.toList) = true := beq_iff_eq.mpr c31
     have c31b1 : (t428.toList != t418.toList) = false := bne_eq_false_iff_eq.mpr c31
     clear c31
     have H' := Aside0.mk H
     clear H
     go_wp2
     go_meet
     case rel => exact ⟨_, ((t429 != t419)), (by first | rfl | (simp; done) | (simp [*]; done)), H', ⟨by first | omega | exact Nat.le_refl _⟩, ⟨by (with_reducible repeat (first | apply Kd.R_alloc | apply Kd.R_drewN | apply Kd.R_drew)); exact Kd.R_mono HO422.out (fun _ hk => trivial)⟩, ⟨by (with_reducible repeat (first | apply Kd.R_alloc | apply Kd.R_drewN | apply Kd.R_drew)); exact Kd.R_mono HO425.out (fun _ hk => trivial)⟩, ⟨by (with_reducible repeat (first | refine blk_drewN ?_ _ | refine blk_drew ?_ | refine blk_alloc ?_ _)); exact BK409.out⟩, ⟨by (with_reducible repeat (first | refine blk_drewN ?_ _ | refine blk_drew ?_ | refine blk_alloc ?_ _)); exact BK426.out⟩, ⟨by repeat (first | (with_reducible first | exact HB.out | apply bwA | apply pwN | apply bw1 | refine below_set ?_ GE409.out | refine below_set ?_ GE426.out) | exact HB.out)⟩⟩
    ·rw [if_neg c31] at H
     have c31b0 : (t428.toList == t418.toList) = false := beq_eq_false_iff_ne.mpr c31
     have c31b1 : (t428.toList != t418.toList) = true := bne_iff_ne.mpr c31
     have H' := Aside0.mk H
     clear H
     go_wp2
     go_meet
     case rel => exact ⟨_, (true), (by first | rfl | (simp; done) | (simp [*]; done)), H', ⟨by first | omega | exact Nat.le_refl _⟩, ⟨by (with_reducible repeat (first | apply Kd.R_alloc | apply Kd.R_drewN | apply Kd.R_drew)); exact Kd.R_mono HO422.out (fun _ hk => trivial)⟩, ⟨by (with_reducible repeat (first | apply Kd.R_alloc | apply Kd.R_drewN | apply Kd.R_drew)); exact Kd.R_mono HO425.out (fun _ hk => trivial)⟩, ⟨by (with_reducible repeat (first | refine blk_drewN ?_ _ | refine blk_drew ?_ | refine blk_alloc ?_ _)); exact BK409.out⟩, ⟨by (with_reducible repeat (first | refine blk_drewN ?_ _ | refine blk_drew ?_ | refine blk_alloc ?_ _)); exact BK426.out⟩, ⟨by repeat (first | (with_reducible first | exact HB.out | apply bwA | apply pwN | apply bw1 | refine below_set ?_ GE409.out | refine below_set ?_ GE426.out) | exact HB.out)⟩⟩
   ·rw [if_neg c30] at H
    have c30b0 : (t427 == t417) = false := beq_eq_false_iff_ne.mpr c30
    have c30b1 : (t427 != t417) = true := bne_iff_ne.mpr c30
    (first | rw [c30b0] | (simp only [i64_w, i32_w]; rw [c30b0]) | skip)
    have H' := Aside0.mk H
    clear H
    go_wp2
    go_meet
    case rel => exact ⟨_, (true), (by first | rfl | (simp; done) | (simp [*]; done)), H', ⟨by first | omega | exact Nat.le_refl _⟩, ⟨by (with_reducible repeat (first | apply Kd.R_alloc | apply Kd.R_drewN | apply Kd.R_drew)); exact Kd.R_mono HO422.out (fun _ hk => trivial)⟩, ⟨by (with_reducible repeat (first | apply Kd.R_alloc | apply Kd.R_drewN | apply Kd.R_drew)); exact Kd.R_mono HO425.out (fun _ hk => trivial)⟩, ⟨by (with_reducible repeat (first | refine blk_drewN ?_ _ | refine blk_drew ?_ | refine blk_alloc ?_ _)); exact BK409.out⟩, ⟨by (with_reducible repeat (first | refine blk_drewN ?_ _ | refine blk_drew ?_ | refine blk_alloc ?_ _)); exact BK426.out⟩, ⟨by repeat (first | (with_reducible first | exact HB.out | apply bwA | apply pwN | apply bw1 | refine below_set ?_ GE409.out | refine below_set ?_ GE426.out) | exact HB.out)⟩⟩
  case rest =>
   clear HC13
   try clear c1
   try clear c2
   try clear p2
   try clear c3
   try clear c5
   try clear c5b0
   try clear c7
   try clear c9
   try clear c14
   try clear c15
   try clear c26
   try clear c30
   try clear c30b0
   try clear c30b1
   try clear c31
   try clear c31b0
   try clear c31b1
   try clear hcz15_0
   try clear hcz15_1
   try clear hcz17_0
   try clear hcz17_1
   try clear hcz22_0
   try clear hcz22_1
   try clear hcz27_0
   try clear hcz27_1
   try clear hcz7_0
   try clear hcz7_1
   try clear hfz15_0
   try clear hfz15_1
   try clear hfz17_0
   try clear hfz17_1
   try clear hfz22_0
   try clear hfz22_1
   try clear hfz27_0
   try clear hfz27_1
   try clear hfz7_0
   try clear hfz7_1
   obtain ⟨kq, x51_12, rfl, HA, HJ12, HO_427000, HO_427001, BK409, BK426, HB⟩ := hcut
   cases kq with
   | zero => exact absurd HA.out (by simp [laws_FnExactLongestNumber.j0])
   | succ kj12 =>
    have H := HA.out
    clear HA
    simp only [laws_FnExactLongestNumber.j0] at H
    by_cases c32 : x51_12 = true
    ·subst c32
     rw [if_pos rfl] at H
     have H1 := H
     clear H
     have H := H1
     clear H1
     obtain rfl := Option.some.inj H
     go_wp2
     go_ret
     exact ⟨by first | rfl | (simp [errW_none, errW_some, i64_w]; done) | (simp [errW_none, errW_some] <;> rfl) | (simp [*, errW_none, errW_some] <;> rfl), by repeat (first | (with_reducible first | exact HB.out | apply bwA | apply pwN | apply bw1 | refine below_set ?_ GE409.out | refine below_set ?_ GE426.out) | exact HB.out)⟩
    ·replace c32 := Bool.eq_false_iff.mpr c32
     subst c32
     rw [if_neg (show ¬ (false = true) by decide)] at H
     have H1 := H
     clear H
     have H := H1
     clear H1
     replace H := Option.bind_eq_some_iff.mp H
     obtain ⟨⟨t430, t433⟩, A330, H⟩ := H
     (try dsimp only at H)
     have A33 := Aside0.mk A330
     clear A330
     replace H := Option.bind_eq_some_iff.mp H
     obtain ⟨t436, A340, H⟩ := H
     (try dsimp only at H)
     have A34 := Aside0.mk A340
     clear A340
     by_cases c35 : t436 = true
     ·subst c35
      rw [if_pos rfl] at H
      have H1 := H
      clear H
      have H := H1
      clear H1
      obtain rfl := Option.some.inj H
      try go_wp2
      have n0_ := Aside0.mk (Kd.R_drew HO_427000.out)
      have n1_ := Aside0.mk (Kd.R_drew HO_427001.out)
      have n2_ := Aside0.mk (blk_drew BK409.out)
      have n3_ := Aside0.mk (blk_drew BK426.out)
      have n4_ := Aside0.mk (bw1 HB.out)
      clear HO_427000
      clear HO_427001
      clear BK409
      clear BK426
      clear HB
      have HO_427000 := n0_
      have HO_427001 := n1_
      have BK409 := n2_
      have BK426 := n3_
      have HB := n4_
      clear n0_ n1_ n2_ n3_ n4_
      refine start_ (n := 5) (S := fun w' => w'.cell? ⟨gb426, 0, none⟩ = some (.slice Ao25 t420.length co25) ∧ w'.cell? ⟨gb426, 1, none⟩ = some (.slice Ao28 t423.length co28) ∧ w'.cell? ⟨gb409, 0, none⟩ = some (.slice A0_0 l0_0.length c0_0) ∧ w'.cell? ⟨gb409, 1, none⟩ = some (.slice A0_1 l0_1.length c0_1)) (ds := []) #[false, false, false, false, false] (by kernel_rfl) rfl rfl ⟨(blk_cell BK426.out 0).trans rfl, (blk_cell BK426.out 1).trans rfl, (blk_cell BK409.out 0).trans rfl, (blk_cell BK409.out 1).trans rfl⟩ (fun hHeld => ?_)
      generalize wc.drew = w36 at HO_427000 HO_427001 BK409 BK426 HB hHeld ⊢
      refine take_ (i := 0) (N := some 52) (v := ?_) (a' := ?_) #[true, false, false, false, false] rfl rfl (by kernel_rfl) (fun _ _ _ h => h) (Or.inl ⟨by rfl, ?_⟩) hHeld ?_ ?_
      rotate_left
      ·rintro w' ⟨s0, s1, s2, s3⟩
       go_simp
       with_reducible rfl
      rotate_left
      ·simp only [Act.put, List.setIfInBounds_toArray, List.set_cons_zero, List.set_cons_succ, i64_w, i32_w, u8_w_]
       rfl
      refine take_ (i := 1) (N := some 53) (v := ?_) (a' := ?_) #[true, true, false, false, false] rfl rfl (by kernel_rfl) (fun _ _ _ h => h) (Or.inl ⟨by rfl, ?_⟩) hHeld ?_ ?_
      rotate_left
      ·rintro w' ⟨s0, s1, s2, s3⟩
       go_simp
       with_reducible rfl
      rotate_left
      ·simp only [Act.put, List.setIfInBounds_toArray, List.set_cons_zero, List.set_cons_succ, i64_w, i32_w, u8_w_]
       rfl
      refine one_ (i := 2) (N := some 54) #[true, true, true, false, false] rfl rfl (by kernel_rfl) (by decide) (fun K hK => ?_)
      refine goes_ Try.func9 (by kernel_rfl) rfl #[.agg #[.slice A0_0 l0_0.length c0_0, .slice A0_1 l0_1.length c0_1]] (by rfl) rfl rfl (by (try simp only [List.map_toArray, List.map_cons, List.map_nil]); first | done | rfl | (simp only [List.length_drop, List.length_take]; rfl)) ?_
      with_reducible refine (laws_toSystem.calls kj12 _ _ l0_0 _ _ l0_1 t430 t433 _ ?side1 ?side2 ?side3 ?side4 A33.out).mono ?_
      (case side1 => repeat (first | exact (Kd.C_below HR0_0.out HB.out) | (with_reducible refine Kd.C_alloc ?_ _) | (with_reducible refine Kd.C_drewN ?_ _) | (with_reducible refine Kd.C_drew ?_)))
      (case side2 => exact HC0_0.out)
      (case side3 => repeat (first | exact (Kd.C_below HR0_1.out HB.out) | (with_reducible refine Kd.C_alloc ?_ _) | (with_reducible refine Kd.C_drewN ?_ _) | (with_reducible refine Kd.C_drew ?_)))
      (case side4 => exact HC0_1.out)
      rintro e w37 ⟨v431, v434, rfl, ho0, ho1, hb⟩
      refine ⟨_, rfl, ?_⟩
      have n0_ := Aside0.mk (Kd.R_elder' (by (with_reducible repeat (first | apply Kd.R_alloc | apply Kd.R_drewN | apply Kd.R_drew)); exact HO_427000.out) (Kd.R_base ho0) hb)
      have n1_ := Aside0.mk (Kd.R_elder' (by (with_reducible repeat (first | apply Kd.R_alloc | apply Kd.R_drewN | apply Kd.R_drew)); exact HO_427001.out) (Kd.R_base ho1) hb)
      have n2_ := Aside0.mk (Kd.R_lower (Kd.R_new' ho0 (Kd.R_lt (by (with_reducible repeat (first | apply Kd.R_alloc | apply Kd.R_drewN | apply Kd.R_drew)); exact HO_427000.out))) (below_size (by repeat (first | (with_reducible first | exact HB.out | apply bwA | apply pwN | apply bw1 | refine below_set ?_ GE409.out | refine below_set ?_ GE426.out) | exact HB.out))))
      have n3_ := Aside0.mk (Kd.R_lower (Kd.R_new' ho1 (Kd.R_lt (by (with_reducible repeat (first | apply Kd.R_alloc | apply Kd.R_drewN | apply Kd.R_drew)); exact HO_427001.out))) (below_size (by repeat (first | (with_reducible first | exact HB.out | apply bwA | apply pwN | apply bw1 | refine below_set ?_ GE409.out | refine below_set ?_ GE426.out) | exact HB.out))))
      have n4_ := Aside0.mk (blk_below (g := gb409) (by (with_reducible repeat (first | refine blk_drewN ?_ _ | refine blk_drew ?_ | refine blk_alloc ?_ _)); exact BK409.out) hb)
      have n5_ := Aside0.mk (blk_below (g := gb426) (by (with_reducible repeat (first | refine blk_drewN ?_ _ | refine blk_drew ?_ | refine blk_alloc ?_ _)); exact BK426.out) hb)
      have n6_ := Aside0.mk (below_step (by repeat (first | (with_reducible first | exact HB.out | apply bwA | apply pwN | apply bw1 | refine below_set ?_ GE409.out | refine below_set ?_ GE426.out) | exact HB.out)) hb)
      clear HO_427000
      clear HO_427001
      clear BK409
      clear BK426
      clear HB
      have HO_427000 := n0_
      have HO_427001 := n1_
      have HO432 := n2_
      have HO435 := n3_
      have BK409 := n4_
      have BK426 := n5_
      have HB := n6_
      clear n0_ n1_ n2_ n3_ n4_ n5_ n6_
      (try clear hb)
      (try clear hb2)
      (try clear hk)
      (try clear hi)
      (try clear ho0)
      (try clear ho1)
      obtain ⟨Ao38, co38, eo38⟩ := Kd.R_slice HO432.out
      (first | subst eo38 | (injection eo38 with f1_ f2_ f3_; have f4_ := f1_.symm; have f5_ := f3_.symm; clear f1_ f2_ f3_; subst f4_; subst f5_))
      obtain ⟨Ao39, co39, eo39⟩ := Kd.R_slice HO435.out
      (first | subst eo39 | (injection eo39 with f1_ f2_ f3_; have f4_ := f1_.symm; have f5_ := f3_.symm; clear f1_ f2_ f3_; subst f4_; subst f5_))
      refine hK.out _ _ ⟨(blk_cell BK426.out 0).trans rfl, (blk_cell BK426.out 1).trans rfl, (blk_cell BK409.out 0).trans rfl, (blk_cell BK409.out 1).trans rfl⟩ (fun hHeld => ?_)
      clear hK K
      refine nm_ (some 54) ?_
      refine one_ (i := 3) (N := some 55) #[true, true, true, true, false] rfl rfl (by kernel_rfl) (by decide) (fun K hK => ?_)
      refine goes_ Try.func11 (by kernel_rfl) rfl #[.agg #[.slice Ao25 t420.length co25, .slice Ao28 t423.length co28], .agg #[.slice Ao38 t430.length co38, .slice Ao39 t433.length co39]] (by rfl) rfl rfl (by (try simp only [List.map_toArray, List.map_cons, List.map_nil]); first | done | rfl | (simp only [List.length_drop, List.length_take]; rfl)) ?_
      with_reducible refine (laws_eqSystem.calls kj12 _ _ t420 _ _ t423 _ _ t430 _ _ t433 true _ ?side1 ?side2 ?side3 ?side4 ?side5 ?side6 ?side7 ?side8 A34.out).mono ?_
      (case side1 => repeat (first | exact (Kd.R_reads' HO_427000.out).2.2 | (with_reducible refine Kd.C_alloc ?_ _) | (with_reducible refine Kd.C_drewN ?_ _) | (with_reducible refine Kd.C_drew ?_)))
      (case side2 => exact (Kd.R_reads' HO_427000.out).2.1)
      (case side3 => repeat (first | exact (Kd.R_reads' HO_427001.out).2.2 | (with_reducible refine Kd.C_alloc ?_ _) | (with_reducible refine Kd.C_drewN ?_ _) | (with_reducible refine Kd.C_drew ?_)))
      (case side4 => exact (Kd.R_reads' HO_427001.out).2.1)
      (case side5 => repeat (first | exact (Kd.R_reads' HO432.out).2.2 | (with_reducible refine Kd.C_alloc ?_ _) | (with_reducible refine Kd.C_drewN ?_ _) | (with_reducible refine Kd.C_drew ?_)))
      (case side6 => exact (Kd.R_reads' HO432.out).2.1)
      (case side7 => repeat (first | exact (Kd.R_reads' HO435.out).2.2 | (with_reducible refine Kd.C_alloc ?_ _) | (with_reducible refine Kd.C_drewN ?_ _) | (with_reducible refine Kd.C_drew ?_)))
      (case side8 => exact (Kd.R_reads' HO435.out).2.1)
      rintro e w40 ⟨rfl, hb⟩
      refine ⟨_, rfl, ?_⟩
      have n0_ := Aside0.mk (Kd.R_below (by (with_reducible repeat (first | apply Kd.R_alloc | apply Kd.R_drewN | apply Kd.R_drew)); exact HO_427000.out) hb)
      have n1_ := Aside0.mk (Kd.R_below (by (with_reducible repeat (first | apply Kd.R_alloc | apply Kd.R_drewN | apply Kd.R_drew)); exact HO_427001.out) hb)
      have n2_ := Aside0.mk (Kd.R_below (by (with_reducible repeat (first | apply Kd.R_alloc | apply Kd.R_drewN | apply Kd.R_drew)); exact HO432.out) hb)
      have n3_ := Aside0.mk (Kd.R_below (by (with_reducible repeat (first | apply Kd.R_alloc | apply Kd.R_drewN | apply Kd.R_drew)); exact HO435.out) hb)
      have n4_ := Aside0.mk (blk_below (g := gb409) (by (with_reducible repeat (first | refine blk_drewN ?_ _ | refine blk_drew ?_ | refine blk_alloc ?_ _)); exact BK409.out) hb)
      have n5_ := Aside0.mk (blk_below (g := gb426) (by (with_reducible repeat (first | refine blk_drewN ?_ _ | refine blk_drew ?_ | refine blk_alloc ?_ _)); exact BK426.out) hb)
      have n6_ := Aside0.mk (below_step (by repeat (first | (with_reducible first | exact HB.out | apply bwA | apply pwN | apply bw1 | refine below_set ?_ GE409.out | refine below_set ?_ GE426.out) | exact HB.out)) hb)
      clear HO_427000
      clear HO_427001
      clear HO432
      clear HO435
      clear BK409
      clear BK426
      clear HB
      have HO_427000 := n0_
      have HO_427001 := n1_
      have HO432 := n2_
      have HO435 := n3_
      have BK409 := n4_
      have BK426 := n5_
      have HB := n6_
      clear n0_ n1_ n2_ n3_ n4_ n5_ n6_
      (try clear hb)
      (try clear hb2)
      (try clear hk)
      (try clear hi)
      refine hK.out _ _ ⟨(blk_cell BK426.out 0).trans rfl, (blk_cell BK426.out 1).trans rfl, (blk_cell BK409.out 0).trans rfl, (blk_cell BK409.out 1).trans rfl⟩ (fun hHeld => ?_)
      clear hK K
      refine nm_ (some 55) ?_
      refine pure_ (i := 4) (N := some 56) (v := ?_) (a' := ?_) #[true, true, true, true, true] rfl rfl (by kernel_rfl) (fun _ _ _ h => h) (Or.inl ⟨by rfl, ?_⟩) ?_ ?_
      rotate_left
      ·intro w'
       go_simp
       with_reducible rfl
      rotate_left
      ·simp only [Act.put, List.setIfInBounds_toArray, List.set_cons_zero, List.set_cons_succ, i64_w, i32_w, u8_w_]
       rfl
      refine done_ (by kernel_rfl) ?_
      try go_wp2
      go_ret
      exact ⟨by first | rfl | (simp [errW_none, errW_some, i64_w]; done) | (simp [errW_none, errW_some] <;> rfl) | (simp [*, errW_none, errW_some] <;> rfl), by repeat (first | (with_reducible first | exact HB.out | apply bwA | apply pwN | apply bw1 | refine below_set ?_ GE409.out | refine below_set ?_ GE426.out) | exact HB.out)⟩
     ·replace c35 := Bool.eq_false_iff.mpr c35
      subst c35
      rw [if_neg (show ¬ (false = true) by decide)] at H
      have H1 := H
      clear H
      have H := H1
      clear H1
      obtain rfl := Option.some.inj H
      try go_wp2
      have n0_ := Aside0.mk (Kd.R_drew HO_427000.out)
      have n1_ := Aside0.mk (Kd.R_drew HO_427001.out)
      have n2_ := Aside0.mk (blk_drew BK409.out)
      have n3_ := Aside0.mk (blk_drew BK426.out)
      have n4_ := Aside0.mk (bw1 HB.out)
      clear HO_427000
      clear HO_427001
      clear BK409
      clear BK426
      clear HB
      have HO_427000 := n0_
      have HO_427001 := n1_
      have BK409 := n2_
      have BK426 := n3_
      have HB := n4_
      clear n0_ n1_ n2_ n3_ n4_
      refine start_ (n := 5) (S := fun w' => w'.cell? ⟨gb426, 0, none⟩ = some (.slice Ao25 t420.length co25) ∧ w'.cell? ⟨gb426, 1, none⟩ = some (.slice Ao28 t423.length co28) ∧ w'.cell? ⟨gb409, 0, none⟩ = some (.slice A0_0 l0_0.length c0_0) ∧ w'.cell? ⟨gb409, 1, none⟩ = some (.slice A0_1 l0_1.length c0_1)) (ds := []) #[false, false, false, false, false] (by kernel_rfl) rfl rfl ⟨(blk_cell BK426.out 0).trans rfl, (blk_cell BK426.out 1).trans rfl, (blk_cell BK409.out 0).trans rfl, (blk_cell BK409.out 1).trans rfl⟩ (fun hHeld => ?_)
      generalize wc.drew = w41 at HO_427000 HO_427001 BK409 BK426 HB hHeld ⊢
      refine take_ (i := 0) (N := some 52) (v := ?_) (a' := ?_) #[true, false, false, false, false] rfl rfl (by kernel_rfl) (fun _ _ _ h => h) (Or.inl ⟨by rfl, ?_⟩) hHeld ?_ ?_
      rotate_left
      ·rintro w' ⟨s0, s1, s2, s3⟩
       go_simp
       with_reducible rfl
      rotate_left
      ·simp only [Act.put, List.setIfInBounds_toArray, List.set_cons_zero, List.set_cons_succ, i64_w, i32_w, u8_w_]
       rfl
      refine take_ (i := 1) (N := some 53) (v := ?_) (a' := ?_) #[true, true, false, false, false] rfl rfl (by kernel_rfl) (fun _ _ _ h => h) (Or.inl ⟨by rfl, ?_⟩) hHeld ?_ ?_
      rotate_left
      ·rintro w' ⟨s0, s1, s2, s3⟩
       go_simp
       with_reducible rfl
      rotate_left
      ·simp only [Act.put, List.setIfInBounds_toArray, List.set_cons_zero, List.set_cons_succ, i64_w, i32_w, u8_w_]
       rfl
      refine one_ (i := 2) (N := some 54) #[true, true, true, false, false] rfl rfl (by kernel_rfl) (by decide) (fun K hK => ?_)
      refine goes_ Try.func9 (by kernel_rfl) rfl #[.agg #[.slice A0_0 l0_0.length c0_0, .slice A0_1 l0_1.length c0_1]] (by rfl) rfl rfl (by (try simp only [List.map_toArray, List.map_cons, List.map_nil]); first | done | rfl | (simp only [List.length_drop, List.length_take]; rfl)) ?_
      with_reducible refine (laws_toSystem.calls kj12 _ _ l0_0 _ _ l0_1 t430 t433 _ ?side1 ?side2 ?side3 ?side4 A33.out).mono ?_
      (case side1 => repeat (first | exact (Kd.C_below HR0_0.out HB.out) | (with_reducible refine Kd.C_alloc ?_ _) | (with_reducible refine Kd.C_drewN ?_ _) | (with_reducible refine Kd.C_drew ?_)))
      (case side2 => exact HC0_0.out)
      (case side3 => repeat (first | exact (Kd.C_below HR0_1.out HB.out) | (with_reducible refine Kd.C_alloc ?_ _) | (with_reducible refine Kd.C_drewN ?_ _) | (with_reducible refine Kd.C_drew ?_)))
      (case side4 => exact HC0_1.out)
      rintro e w42 ⟨v431, v434, rfl, ho0, ho1, hb⟩
      refine ⟨_, rfl, ?_⟩
      have n0_ := Aside0.mk (Kd.R_elder' (by (with_reducible repeat (first | apply Kd.R_alloc | apply Kd.R_drewN | apply Kd.R_drew)); exact HO_427000.out) (Kd.R_base ho0) hb)
      have n1_ := Aside0.mk (Kd.R_elder' (by (with_reducible repeat (first | apply Kd.R_alloc | apply Kd.R_drewN | apply Kd.R_drew)); exact HO_427001.out) (Kd.R_base ho1) hb)
      have n2_ := Aside0.mk (Kd.R_lower (Kd.R_new' ho0 (Kd.R_lt (by (with_reducible repeat (first | apply Kd.R_alloc | apply Kd.R_drewN | apply Kd.R_drew)); exact HO_427000.out))) (below_size (by repeat (first | (with_reducible first | exact HB.out | apply bwA | apply pwN | apply bw1 | refine below_set ?_ GE409.out | refine below_set ?_ GE426.out) | exact HB.out))))
      have n3_ := Aside0.mk (Kd.R_lower (Kd.R_new' ho1 (Kd.R_lt (by (with_reducible repeat (first | apply Kd.R_alloc | apply Kd.R_drewN | apply Kd.R_drew)); exact HO_427001.out))) (below_size (by repeat (first | (with_reducible first | exact HB.out | apply bwA | apply pwN | apply bw1 | refine below_set ?_ GE409.out | refine below_set ?_ GE426.out) | exact HB.out))))
      have n4_ := Aside0.mk (blk_below (g := gb409) (by (with_reducible repeat (first | refine blk_drewN ?_ _ | refine blk_drew ?_ | refine blk_alloc ?_ _)); exact BK409.out) hb)
      have n5_ := Aside0.mk (blk_below (g := gb426) (by (with_reducible repeat (first | refine blk_drewN ?_ _ | refine blk_drew ?_ | refine blk_alloc ?_ _)); exact BK426.out) hb)
      have n6_ := Aside0.mk (below_step (by repeat (first | (with_reducible first | exact HB.out | apply bwA | apply pwN | apply bw1 | refine below_set ?_ GE409.out | refine below_set ?_ GE426.out) | exact HB.out)) hb)
      clear HO_427000
      clear HO_427001
      clear BK409
      clear BK426
      clear HB
      have HO_427000 := n0_
      have HO_427001 := n1_
      have HO432 := n2_
      have HO435 := n3_
      have BK409 := n4_
      have BK426 := n5_
      have HB := n6_
      clear n0_ n1_ n2_ n3_ n4_ n5_ n6_
      (try clear hb)
      (try clear hb2)
      (try clear hk)
      (try clear hi)
      (try clear ho0)
      (try clear ho1)
      obtain ⟨Ao43, co43, eo43⟩ := Kd.R_slice HO432.out
      (first | subst eo43 | (injection eo43 with f1_ f2_ f3_; have f4_ := f1_.symm; have f5_ := f3_.symm; clear f1_ f2_ f3_; subst f4_; subst f5_))
      obtain ⟨Ao44, co44, eo44⟩ := Kd.R_slice HO435.out
      (first | subst eo44 | (injection eo44 with f1_ f2_ f3_; have f4_ := f1_.symm; have f5_ := f3_.symm; clear f1_ f2_ f3_; subst f4_; subst f5_))
      refine hK.out _ _ ⟨(blk_cell BK426.out 0).trans rfl, (blk_cell BK426.out 1).trans rfl, (blk_cell BK409.out 0).trans rfl, (blk_cell BK409.out 1).trans rfl⟩ (fun hHeld => ?_)
      clear hK K
      refine nm_ (some 54) ?_
      refine one_ (i := 3) (N := some 55) #[true, true, true, true, false] rfl rfl (by kernel_rfl) (by decide) (fun K hK => ?_)
      refine goes_ Try.func11 (by kernel_rfl) rfl #[.agg #[.slice Ao25 t420.length co25, .slice Ao28 t423.length co28], .agg #[.slice Ao43 t430.length co43, .slice Ao44 t433.length co44]] (by rfl) rfl rfl (by (try simp only [List.map_toArray, List.map_cons, List.map_nil]); first | done | rfl | (simp only [List.length_drop, List.length_take]; rfl)) ?_
      with_reducible refine (laws_eqSystem.calls kj12 _ _ t420 _ _ t423 _ _ t430 _ _ t433 false _ ?side1 ?side2 ?side3 ?side4 ?side5 ?side6 ?side7 ?side8 A34.out).mono ?_
      (case side1 => repeat (first | exact (Kd.R_reads' HO_427000.out).2.2 | (with_reducible refine Kd.C_alloc ?_ _) | (with_reducible refine Kd.C_drewN ?_ _) | (with_reducible refine Kd.C_drew ?_)))
      (case side2 => exact (Kd.R_reads' HO_427000.out).2.1)
      (case side3 => repeat (first | exact (Kd.R_reads' HO_427001.out).2.2 | (with_reducible refine Kd.C_alloc ?_ _) | (with_reducible refine Kd.C_drewN ?_ _) | (with_reducible refine Kd.C_drew ?_)))
      (case side4 => exact (Kd.R_reads' HO_427001.out).2.1)
      (case side5 => repeat (first | exact (Kd.R_reads' HO432.out).2.2 | (with_reducible refine Kd.C_alloc ?_ _) | (with_reducible refine Kd.C_drewN ?_ _) | (with_reducible refine Kd.C_drew ?_)))
      (case side6 => exact (Kd.R_reads' HO432.out).2.1)
      (case side7 => repeat (first | exact (Kd.R_reads' HO435.out).2.2 | (with_reducible refine Kd.C_alloc ?_ _) | (with_reducible refine Kd.C_drewN ?_ _) | (with_reducible refine Kd.C_drew ?_)))
      (case side8 => exact (Kd.R_reads' HO435.out).2.1)
      rintro e w45 ⟨rfl, hb⟩
      refine ⟨_, rfl, ?_⟩
      have n0_ := Aside0.mk (Kd.R_below (by (with_reducible repeat (first | apply Kd.R_alloc | apply Kd.R_drewN | apply Kd.R_drew)); exact HO_427000.out) hb)
      have n1_ := Aside0.mk (Kd.R_below (by (with_reducible repeat (first | apply Kd.R_alloc | apply Kd.R_drewN | apply Kd.R_drew)); exact HO_427001.out) hb)
      have n2_ := Aside0.mk (Kd.R_below (by (with_reducible repeat (first | apply Kd.R_alloc | apply Kd.R_drewN | apply Kd.R_drew)); exact HO432.out) hb)
      have n3_ := Aside0.mk (Kd.R_below (by (with_reducible repeat (first | apply Kd.R_alloc | apply Kd.R_drewN | apply Kd.R_drew)); exact HO435.out) hb)
      have n4_ := Aside0.mk (blk_below (g := gb409) (by (with_reducible repeat (first | refine blk_drewN ?_ _ | refine blk_drew ?_ | refine blk_alloc ?_ _)); exact BK409.out) hb)
      have n5_ := Aside0.mk (blk_below (g := gb426) (by (with_reducible repeat (first | refine blk_drewN ?_ _ | refine blk_drew ?_ | refine blk_alloc ?_ _)); exact BK426.out) hb)
      have n6_ := Aside0.mk (below_step (by repeat (first | (with_reducible first | exact HB.out | apply bwA | apply pwN | apply bw1 | refine below_set ?_ GE409.out | refine below_set ?_ GE426.out) | exact HB.out)) hb)
      clear HO_427000
      clear HO_427001
      clear HO432
      clear HO435
      clear BK409
      clear BK426
      clear HB
      have HO_427000 := n0_
      have HO_427001 := n1_
      have HO432 := n2_
      have HO435 := n3_
      have BK409 := n4_
      have BK426 := n5_
      have HB := n6_
      clear n0_ n1_ n2_ n3_ n4_ n5_ n6_
      (try clear hb)
      (try clear hb2)
      (try clear hk)
      (try clear hi)
      refine hK.out _ _ ⟨(blk_cell BK426.out 0).trans rfl, (blk_cell BK426.out 1).trans rfl, (blk_cell BK409.out 0).trans rfl, (blk_cell BK409.out 1).trans rfl⟩ (fun hHeld => ?_)
      clear hK K
      refine nm_ (some 55) ?_
      refine pure_ (i := 4) (N := some 56) (v := ?_) (a' := ?_) #[true, true, true, true, true] rfl rfl (by kernel_rfl) (fun _ _ _ h => h) (Or.inl ⟨by rfl, ?_⟩) ?_ ?_
      rotate_left
      ·intro w'
       go_simp
       with_reducible rfl
      rotate_left
      ·simp only [Act.put, List.setIfInBounds_toArray, List.set_cons_zero, List.set_cons_succ, i64_w, i32_w, u8_w_]
       rfl
      refine done_ (by kernel_rfl) ?_
      try go_wp2
      go_ret
      exact ⟨by first | rfl | (simp [errW_none, errW_some, i64_w]; done) | (simp [errW_none, errW_some] <;> rfl) | (simp [*, errW_none, errW_some] <;> rfl), by repeat (first | (with_reducible first | exact HB.out | apply bwA | apply pwN | apply bw1 | refine below_set ?_ GE409.out | refine below_set ?_ GE426.out) | exact HB.out)⟩
end Go.Proofs.Ytlepbhlbooajmaa.Q
namespace Go.Proofs.Ytlepbhlbooajmaa.Pure
open Go.RowKit Go.Proofs.Ytlepbhlbooajmaa.Ext Go.Proofs.Ytlepbhlbooajmaa.Q Go.Proofs.YtlepbhlbooajmaaW.PrintWords Go.Proofs.YtlepbhlbooajmaaW.PrintLast Go.Proofs.YtlepbhlbooajmaaW.PrintMore
set_option linter.unusedVariables false
set_option linter.unusedSimpArgs false
theorem longestNumber_law (L : List Lg) (M : List P2) (a b : Int) (hL : L.length ≤ 9223372036854775807) (hM : M.length ≤ 9223372036854775807) (hw : wfL L M) {k : Nat} (hk : 6000000 < k) : laws_FnExactLongestNumber.f k L M a b = some true := by
 obtain ⟨k, rfl⟩ : ∃ k', k = k' + 1 := ⟨k - 1, by omega⟩
 unfold laws_FnExactLongestNumber.f
 obtain ⟨r, hr, hb⟩ := szSystem_eq L M hL hM
 rw [hr, Option.bind_some]
 by_cases h0 : r < 0
 ·rw [if_pos h0]
 ·obtain ⟨b0, b1⟩ := hb (by omega)
  have b2 : (L.map toSg).length ≤ 1048576 := by simpa using b0
  rw [if_neg h0, toSystem_eq L M b0 b1 (by omega) (by omega), Option.bind_some]
  dsimp only
  rw [spec_long_eq (wf_of hw) a b (by omega), Option.bind_some, Option.bind_some, impl_long_eq (wf_of hw) a b (by omega), Option.bind_some, if_pos rfl, if_pos rfl, bne_self_eq_false]
  simp only [laws_FnExactLongestNumber.j0, Bool.false_eq_true, if_false]
  rw [toSystem_eq L M b0 b1 (by omega) (by omega), Option.bind_some]
  dsimp only
  rw [eqSystem_self _ _ b2 b1 (by omega) (by omega), Option.bind_some, if_pos rfl]
theorem longestNumber_walk (A0 : Option Addr) (c0 : Nat) (L : List Lg) (A1 : Option Addr) (c1 : Nat) (M : List P2) (hc0 : L.length ≤ c0) (hm0 : c0 ≤ 9223372036854775807) (hc1 : M.length ≤ c1) (hm1 : c1 ≤ 9223372036854775807) (hw : wfL L M) (a b : Int) (w : World) (hr0 : Kd.C k113 w A0 L.length L) (hr1 : Kd.C k104 w A1 M.length M) :
  Calls Try.prog 5 #[.agg #[.slice A0 L.length c0, .slice A1 M.length c1], .int .i64 a, .int .i64 b] w fun e w' => e = .returned (.bool true) ∧ Below w.heap.size w w' :=
 laws_FnExactLongestNumber.calls 6000001 A0 c0 L A1 c1 M a b true w hr0 hc0 hr1 hc1 (longestNumber_law L M a b (by omega) (by omega) hw (by omega))
end Go.Proofs.Ytlepbhlbooajmaa.Pure
namespace Go.Proofs.Ytlepbhlbooajmaa.Open
open Go.ChangeShapes Go.WideShapes Go.ChangeAt Go.RowKit Go.Proofs.Ytlepbhlbooajmaa.Ext Go.Proofs.YtlepbhlbooajmaaW.PrintWords
set_option linter.unusedVariables false
set_option linter.unusedSimpArgs false
variable {H : Type} {enc : TypeId × Value → H} {P : Program} {w : World} {spare : Nat → Bool} {held : Bool} {t : TypeId}
theorem arr_list {k : IntKind} {n : Nat} {e : TypeId} {fuel : Nat} {cs : List Value} {x : DataW H × List MemPlace} (ht : P.underlying t = some (.array n e)) (he : P.underlying e = some (.int k)) (hc : P.cellsOf e = 1) (hn : P.cellsOf t = n)
  (h : DataW.trod enc P w 0 spare held fuel t cs = some x) : ∃ l : List Int, cs = nums k l ∧ l.length = n ∧ ∀ y ∈ l, (Lit.int k y).wf = true := by
 obtain ⟨xs, m, _, _, hl, hxs, hi⟩ := DataW.trod_array ht h
 rw [hn] at hl
 have each : ∀ i, i < n → ∃ y, cs[i]? = some (.int k y) ∧ (Lit.int k y).wf = true := by
  intro i hi'
  have h2 := hi i hi'
  rw [hc, Nat.mul_one] at h2
  obtain ⟨z, hz⟩ : ∃ z, xs[i]? = some z := ⟨xs[i]'(by omega), List.getElem?_eq_getElem (by omega)⟩
  rw [hz] at h2
  obtain ⟨y, hy, _, hw⟩ := DataW.trod_int he h2
  refine ⟨y, ?_, hw⟩
  have := congrArg (fun l => l[0]?) hy
  simpa [List.getElem?_take, List.getElem?_drop] using this
 refine ⟨cs.map fun v => (intOf v), ?_, by simpa using hl, ?_⟩
 ·apply List.ext_getElem?
  intro i
  by_cases hi' : i < n
  ·obtain ⟨y, hy, _⟩ := each i hi'
   simp [nums, hy, intOf]
  ·rw [List.getElem?_eq_none (by omega), List.getElem?_eq_none (by simp [nums]; omega)]
 ·intro y hy
  rw [List.mem_map] at hy
  obtain ⟨v, hv, rfl⟩ := hy
  obtain ⟨i, hi', rfl⟩ := List.mem_iff_getElem.1 hv
  obtain ⟨y, hy, hw⟩ := each i (by omega)
  rw [List.getElem?_eq_getElem hi'] at hy
  injection hy with hy
  rw [hy]; exact hw
theorem wf_i16 {y : Int} (h : (Lit.int .i16 y).wf = true) : -32768 ≤ y ∧ y ≤ 32767 := by simpa [Lit.wf, IntKind.min, IntKind.max, IntKind.signed, IntKind.bits] using h
theorem wf_u8 {y : Int} (h : (Lit.int .u8 y).wf = true) : 0 ≤ y ∧ y ≤ 255 := by simpa [Lit.wf, IntKind.min, IntKind.max, IntKind.signed, IntKind.bits] using h
open Go.ChangeShapes Go.WideShapes Go.ChangeAt Go.RowKit Go.Deep Go.Proofs.Ytlepbhlbooajmaa.Ext Go.Proofs.Ytlepbhlbooajmaa.Q Go.Proofs.YtlepbhlbooajmaaW.PrintWords
variable {H : Type} {enc : TypeId × Value → H} {P : Program} {w : World} {spare : Nat → Bool} {held : Bool}
instance : Inhabited S113 := ⟨z113⟩
instance : Inhabited S104 := ⟨z104⟩
theorem open_sgs {t e : TypeId} {f0 f1 : Field} {fuel : Nat} {cs : List Value} {x : DataW H × List MemPlace} (ht : P.underlying t = some (.slice e)) (he : P.underlying e = some (.struct #[f0, f1])) (ce : P.cellsOf e = 2) (o0 : f0.offset = 0) (o1 : f1.offset = 1) (c0 : P.cellsOf f0.type = 1) (c1 : P.cellsOf f1.type = 1)
  (u0 : P.underlying f0.type = some (.int .u8)) (u1 : P.underlying f1.type = some (.int .i16))
  (h : DataW.trod enc P w 0 spare held fuel t cs = some x) :
  ∃ (A : Option Addr) (c : Nat) (ps : List S113), cs = [.slice A ps.length c] ∧ ps.length ≤ c ∧ c ≤ maxLen ∧ Kd.C k113 w A ps.length ps ∧ ∀ q ∈ ps, (0 ≤ q.f0 ∧ q.f0 ≤ 255) ∧ (-32768 ≤ q.f1 ∧ q.f1 ≤ 32767) := by
 rcases open_slice ht h with ⟨rfl, _⟩ | ⟨a, len, cap, m, n, D, Pl, rfl, hb, hl, hm, hmm, rfl, hx⟩
 ·exact ⟨none, 0, [], rfl, Nat.le_refl _, Nat.zero_le _, ⟨rfl, by simp, fun hp => absurd hp (by simp)⟩, by simp⟩
 have hlm : len ≤ m := by rw [hmm]; split <;> omega
 have each : ∀ i, i < len → ∃ q : S113, (w.cell? (a.add (i * 2)) = some (.int .u8 q.f0) ∧ w.cell? (a.add (i * 2 + 1)) = some (.int .i16 q.f1)) ∧ (0 ≤ q.f0 ∧ q.f0 ≤ 255) ∧ (-32768 ≤ q.f1 ∧ q.f1 ≤ 32767) := by
  intro i hi
  obtain ⟨cs', h1, h2⟩ := hx i (by omega)
  rw [ce] at h1
  obtain ⟨_, hlen, hcell⟩ := World.cells?_some h1
  obtain ⟨xs, k, hk, hxy, _, hxl, hf⟩ := DataW.trod_struct he h2
  match xs, hxl, cs', hlen with
  | [y0, y1], _, [v0, v1], _ =>
   have g0 := hf 0 f0 rfl
   have g1 := hf 1 f1 rfl
   simp [o0, o1, c0, c1] at g0 g1
   obtain ⟨z0, q0, _, w0⟩ := DataW.trod_int u0 g0
   obtain ⟨z1, q1, _, w1⟩ := DataW.trod_int u1 g1
   obtain rfl : v0 = .int .u8 z0 := by simpa using q0
   obtain rfl : v1 = .int .i16 z1 := by simpa using q1
   have e0 := hcell 0 (by omega)
   have e1 := hcell 1 (by omega)
   rw [Deep.add_add] at e0 e1
   exact ⟨⟨z0, z1⟩, ⟨by simpa using e0, by simpa using e1⟩, wf_u8 w0, wf_i16 w1⟩
 obtain ⟨q, hq⟩ := choose_lt each
 refine ⟨some a, cap, (List.range len).map q, by simp, by simpa using hl, hm, ⟨by simp, by simp; unfold maxLen at hm; omega, fun hp => ⟨a, rfl, fun j p hj => ?_⟩⟩, ?_⟩
 ·obtain ⟨hlt, rfl⟩ := List.getElem?_eq_some_iff.1 hj
  have hjl : j < len := by simpa using hlt
  obtain ⟨⟨h0, h1⟩, _⟩ := hq j hjl
  refine ⟨[.int .u8 (q j).f0, .int .i16 (q j).f1], rfl, by simpa using k113_mk w (q j), fun i u hi => ?_⟩
  match i, hi with
  | 0, hi => simp at hi; subst hi; exact h0
  | 1, hi => simp at hi; subst hi; exact h1
 ·intro p hp
  rw [List.mem_map] at hp
  obtain ⟨j, hj, rfl⟩ := hp
  exact (hq j (by simpa using hj)).2
theorem open_p2s {t e b : TypeId} {fuel : Nat} {cs : List Value} {x : DataW H × List MemPlace} (ht : P.underlying t = some (.slice e)) (he : P.underlying e = some (.array 2 b)) (hb8 : P.underlying b = some (.int .u8)) (cb : P.cellsOf b = 1) (ce : P.cellsOf e = 2)
  (h : DataW.trod enc P w 0 spare held fuel t cs = some x) :
  ∃ (A : Option Addr) (c : Nat) (ps : List S104), cs = [.slice A ps.length c] ∧ ps.length ≤ c ∧ c ≤ maxLen ∧ Kd.C k104 w A ps.length ps ∧ ∀ q ∈ ps, (0 ≤ q.f0 ∧ q.f0 ≤ 255) ∧ (0 ≤ q.f1 ∧ q.f1 ≤ 255) := by
 rcases open_slice ht h with ⟨rfl, _⟩ | ⟨a, len, cap, m, n, D, Pl, rfl, hb, hl, hm, hmm, rfl, hx⟩
 ·exact ⟨none, 0, [], rfl, Nat.le_refl _, Nat.zero_le _, ⟨rfl, by simp, fun hp => absurd hp (by simp)⟩, by simp⟩
 have hlm : len ≤ m := by rw [hmm]; split <;> omega
 have each : ∀ i, i < len → ∃ q : S104, (w.cell? (a.add (i * 2)) = some (.int .u8 q.f0) ∧ w.cell? (a.add (i * 2 + 1)) = some (.int .u8 q.f1)) ∧ (0 ≤ q.f0 ∧ q.f0 ≤ 255) ∧ (0 ≤ q.f1 ∧ q.f1 ≤ 255) := by
  intro i hi
  obtain ⟨cs', h1, h2⟩ := hx i (by omega)
  rw [ce] at h1
  obtain ⟨_, hlen, hcell⟩ := World.cells?_some h1
  obtain ⟨l, q1, q2, q3⟩ := arr_list he hb8 cb ce h2
  match l, q2 with
  | [z0, z1], _ =>
   have q1' : cs' = [.int .u8 z0, .int .u8 z1] := q1
   subst q1'
   have e0 := hcell 0 (by omega)
   have e1 := hcell 1 (by omega)
   rw [Deep.add_add] at e0 e1
   exact ⟨⟨z0, z1⟩, ⟨by simpa using e0, by simpa using e1⟩, wf_u8 (q3 z0 (by simp)), wf_u8 (q3 z1 (by simp))⟩
 obtain ⟨q, hq⟩ := choose_lt each
 refine ⟨some a, cap, (List.range len).map q, by simp, by simpa using hl, hm, ⟨by simp, by simp; unfold maxLen at hm; omega, fun hp => ⟨a, rfl, fun j p hj => ?_⟩⟩, ?_⟩
 ·obtain ⟨hlt, rfl⟩ := List.getElem?_eq_some_iff.1 hj
  have hjl : j < len := by simpa using hlt
  obtain ⟨⟨h0, h1⟩, _⟩ := hq j hjl
  refine ⟨[.int .u8 (q j).f0, .int .u8 (q j).f1], rfl, by simpa using k104_mk w (q j), fun i u hi => ?_⟩
  match i, hi with
  | 0, hi => simp at hi; subst hi; exact h0
  | 1, hi => simp at hi; subst hi; exact h1
 ·intro p hp
  rw [List.mem_map] at hp
  obtain ⟨j, hj, rfl⟩ := hp
  exact (hq j (by simpa using hj)).2
theorem open_sys {r : Reach} {b0 : Nat} {t : TypeId} {f0 f1 g0 g1 : Field} {e ep b : TypeId} {v : Value} {d : DataW H} {p : List MemPlace} (ht : P.underlying t = some (.struct #[f0, f1])) (o0 : f0.offset = 0) (o1 : f1.offset = 1) (c0 : P.cellsOf f0.type = 1) (c1 : P.cellsOf f1.type = 1) (hC : P.cellsOf t = 2)
  (h0 : P.underlying f0.type = some (.slice e)) (he : P.underlying e = some (.struct #[g0, g1])) (ce : P.cellsOf e = 2) (p0 : g0.offset = 0) (p1 : g1.offset = 1) (d0 : P.cellsOf g0.type = 1) (d1 : P.cellsOf g1.type = 1) (u0 : P.underlying g0.type = some (.int .u8)) (u1 : P.underlying g1.type = some (.int .i16))
  (h1 : P.underlying f1.type = some (.slice ep)) (hep : P.underlying ep = some (.array 2 b)) (hb8 : P.underlying b = some (.int .u8)) (cb : P.cellsOf b = 1) (cp : P.cellsOf ep = 2)
  (hv : Value.okWide P w r b0 t v) (h : DataW.Trod enc P w 0 spare held t v d p) :
  ∃ (A : Option Addr) (c : Nat) (ps : List S113) (A1 : Option Addr) (k1 : Nat) (ms : List S104), v = .agg #[.slice A ps.length c, .slice A1 ms.length k1] ∧ ps.length ≤ c ∧ c ≤ maxLen ∧ Kd.C k113 w A ps.length ps ∧ (∀ q ∈ ps, (0 ≤ q.f0 ∧ q.f0 ≤ 255) ∧ (-32768 ≤ q.f1 ∧ q.f1 ≤ 32767)) ∧
   ms.length ≤ k1 ∧ k1 ≤ maxLen ∧ Kd.C k104 w A1 ms.length ms ∧ ∀ q ∈ ms, (0 ≤ q.f0 ∧ q.f0 ≤ 255) ∧ (0 ≤ q.f1 ∧ q.f1 ≤ 255) := by
 obtain ⟨cs, rfl, _⟩ := okWide_struct ht hv
 obtain ⟨fuel, hf⟩ := h
 obtain ⟨xs, m, _, _, hl, hxs, hi⟩ := DataW.trod_struct ht hf
 have hlen : xs.length = 2 := by simpa using hxs
 rw [hC] at hl
 have get : ∀ i, i < 2 → ∃ z, xs[i]? = some z := fun i hi' => ⟨xs[i]'(by omega), List.getElem?_eq_getElem (by omega)⟩
 have e0 := hi 0 f0 rfl
 have e1 := hi 1 f1 rfl
 obtain ⟨z0, hz0⟩ := get 0 (by omega)
 obtain ⟨z1, hz1⟩ := get 1 (by omega)
 rw [hz0, o0, c0, List.drop_zero] at e0
 rw [hz1, o1, c1] at e1
 obtain ⟨A, c, ps, s1, s2, s3, s4, s5⟩ := open_sgs h0 he ce p0 p1 d0 d1 u0 u1 e0
 obtain ⟨A1, k1, ms, t1, t2, t3, t4, t5⟩ := open_p2s h1 hep hb8 cb cp e1
 refine ⟨A, c, ps, A1, k1, ms, ?_, s2, s3, s4, s5, t2, t3, t4, t5⟩
 have e : (Value.agg cs).cells.toList = [.slice A ps.length c, .slice A1 ms.length k1] := by
  generalize (Value.agg cs).cells.toList = L at *
  match L, hl with
  | [a, b], _ =>
   have q0 : a = .slice A ps.length c := by simpa using s1
   have q1 : b = .slice A1 ms.length k1 := by simpa using t1
   rw [q0, q1]
 congr 1
 apply Array.toList_inj.1
 simpa [Value.cells] using e
end Go.Proofs.Ytlepbhlbooajmaa.Open
