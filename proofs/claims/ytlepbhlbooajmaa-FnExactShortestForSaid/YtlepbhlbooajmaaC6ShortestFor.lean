/- Contracts and plain laws of functions of the given program; no conditions beside those in the theorems. -/
import Derived.Test.YtlepbhlbooajmaaC5ShortestFor
import Derived.Test.YtlepbhlbooajmaaC1ShortestFor
import Derived.Test.YtlepbhlbooajmaaC4ShortestFor
import Derived.Test.YtlepbhlbooajmaaC0ShortestFor
import Derived.ProofKit
import Derived.OpenShut
import Derived.Below
import Derived.SizedLaws
import Derived.ShutString
import Derived.Deep.Slices
namespace Go.Proofs.Ytlepbhlbooajmaa.Pure
open Go.RowKit Go.Proofs.Ytlepbhlbooajmaa.Ext Go.Proofs.Ytlepbhlbooajmaa.Q Go.Proofs.YtlepbhlbooajmaaW.PrintWords Go.Proofs.YtlepbhlbooajmaaW.PrintLast Go.Proofs.YtlepbhlbooajmaaW.PrintMore
set_option linter.unusedVariables false
set_option linter.unusedSimpArgs false
abbrev Lg := S113
def toSg (s : Lg) : Sg := ⟨s.f0, s.f1⟩
theorem copy_step {α β : Type} (f : α → β) (l : List α) (z : α) (y : β) (n i : Nat) (hn : n = l.length) (h : i < l.length) : ((l.take i).map f ++ List.replicate (n - i) y).set i (f (l.getD i z)) = (l.take (i + 1)).map f ++ List.replicate (n - (i + 1)) y := by
 subst hn
 rw [show l.length - i = (l.length - (i + 1)) + 1 from by omega, List.replicate_succ, set_mid _ _ _ _ i (by simp; omega), take_map_succ f l z i h]
 simp
theorem toSigns_l0 (L : List Lg) (hL : L.length ≤ 1048576) : ∀ (d i k : Nat), i + d = L.length → d < k → laws_toSignS.l0 k L ((L.take i).map toSg ++ List.replicate (L.length - i) z102) i = some (L.map toSg) := by
 intro d
 induction d with
 | zero =>
  intro i k hi hk
  obtain ⟨k, rfl⟩ : ∃ k', k = k' + 1 := ⟨k - 1, by omega⟩
  unfold laws_toSignS.l0
  rw [if_neg (by omega), List.take_of_length_le (by omega), show L.length - i = 0 by omega]
  simp
 | succ d ih =>
  intro i k hi hk
  obtain ⟨k, rfl⟩ : ∃ k', k = k' + 1 := ⟨k - 1, by omega⟩
  unfold laws_toSignS.l0
  unfold laws_toSign.f
  rw [if_pos (by omega), if_pos (by omega), Option.bind_some, if_pos (by simp; omega), Int.toNat_natCast, wsucc i (by omega)]
  have := copy_step toSg L z113 z102 L.length i rfl (by omega)
  have e : (⟨(rd_T113 L (i : Int)).f0, (rd_T113 L (i : Int)).f1⟩ : Sg) = toSg (L.getD i z113) := by unfold rd_T113 toSg; rw [Int.toNat_natCast]
  dsimp only
  rw [e, this]
  exact ih (i + 1) k (by omega) (by omega)
theorem toSigns_eq (L : List Lg) (hL : L.length ≤ 1048576) {k : Nat} (hk : L.length < k) : laws_toSignS.f k L = some (L.map toSg) := by
 unfold laws_toSignS.f
 rw [if_pos (by omega), if_pos (by omega), Int.toNat_natCast]
 exact toSigns_l0 L hL L.length 0 k (by omega) (by omega)
theorem toPairs_l0 (L : List P2) (hL : L.length ≤ 1048576) : ∀ (d i k : Nat), i + d = L.length → d < k → laws_toByteA2S.l0 k L ((L.take i).map id ++ List.replicate (L.length - i) z104) i = some L := by
 intro d
 induction d with
 | zero =>
  intro i k hi hk
  obtain ⟨k, rfl⟩ : ∃ k', k = k' + 1 := ⟨k - 1, by omega⟩
  unfold laws_toByteA2S.l0
  rw [if_neg (by omega), List.take_of_length_le (by omega), show L.length - i = 0 by omega]
  simp
 | succ d ih =>
  intro i k hi hk
  obtain ⟨k, rfl⟩ : ∃ k', k = k' + 1 := ⟨k - 1, by omega⟩
  unfold laws_toByteA2S.l0
  unfold laws_toByteA2.f
  rw [if_pos (by omega), if_pos (by omega), Option.bind_some, if_pos (by simp; omega), Int.toNat_natCast, wsucc i (by omega)]
  have := copy_step id L z104 z104 L.length i rfl (by omega)
  have e : (⟨(rd_T104 L (i : Int)).f0, (rd_T104 L (i : Int)).f1⟩ : P2) = id (L.getD i z104) := by unfold rd_T104; rw [Int.toNat_natCast]; rfl
  dsimp only
  rw [e, this]
  exact ih (i + 1) k (by omega) (by omega)
theorem toPairs_eq (L : List P2) (hL : L.length ≤ 1048576) {k : Nat} (hk : L.length < k) : laws_toByteA2S.f k L = some L := by
 unfold laws_toByteA2S.f
 rw [if_pos (by omega), if_pos (by omega), Int.toNat_natCast]
 exact toPairs_l0 L hL L.length 0 k (by omega) (by omega)
theorem toSystem_eq (L : List Lg) (M : List P2) (hL : L.length ≤ 1048576) (hM : M.length ≤ 1048576) {k : Nat} (hk : L.length < k) (hk2 : M.length < k) : laws_toSystem.f k L M = some (L.map toSg, M) := by
 unfold laws_toSystem.f
 rw [toSigns_eq L hL hk, Option.bind_some, toPairs_eq M hM hk2, Option.bind_some]
theorem eqSigns_self (l : List Sg) (hl : l.length ≤ 1048576) {k : Nat} (hk : l.length < k) : laws_eqSignS.f k l l = some true := by
 have key : ∀ (d i k : Nat), i + d = l.length → d < k → laws_eqSignS.l0 k l l i = some true := by
  intro d
  induction d with
  | zero =>
   intro i k hi hk
   obtain ⟨k, rfl⟩ : ∃ k', k = k' + 1 := ⟨k - 1, by omega⟩
   unfold laws_eqSignS.l0
   rw [if_neg (by omega)]
  | succ d ih =>
   intro i k hi hk
   obtain ⟨k, rfl⟩ : ∃ k', k = k' + 1 := ⟨k - 1, by omega⟩
   unfold laws_eqSignS.l0 laws_eqSign.f
   rw [if_pos (by omega), if_pos (by omega), if_pos (by omega), if_pos rfl, if_pos rfl, Option.bind_some, if_pos rfl, wsucc i (by omega)]
   exact ih (i + 1) k (by omega) (by omega)
 unfold laws_eqSignS.f
 rw [if_pos rfl]
 exact key l.length 0 k (by omega) hk
theorem eqPair_self (a b : Int) {k : Nat} (hk : 5 < k) : laws_eqByteA2.f k a b a b = some true := by
 obtain ⟨k, rfl⟩ : ∃ k', k = k' + 3 := ⟨k - 3, by omega⟩
 unfold laws_eqByteA2.f
 have e1 : wrap64 (0 + 1) = 1 := by unfold wrap64; omega
 have e2 : wrap64 (1 + 1) = 2 := by unfold wrap64; omega
 unfold laws_eqByteA2.l0
 rw [if_pos (by omega), if_pos (by omega), if_pos rfl, e1]
 unfold laws_eqByteA2.l0
 rw [if_pos (by omega), if_pos (by omega), if_pos rfl, e2]
 unfold laws_eqByteA2.l0
 rw [if_neg (by omega)]
theorem eqPairs_self (l : List P2) (hl : l.length ≤ 1048576) {k : Nat} (hk : l.length + 10 < k) : laws_eqByteA2S.f k l l = some true := by
 have key : ∀ (d i k : Nat), i + d = l.length → d + 10 < k → laws_eqByteA2S.l0 k l l i = some true := by
  intro d
  induction d with
  | zero =>
   intro i k hi hk
   obtain ⟨k, rfl⟩ : ∃ k', k = k' + 1 := ⟨k - 1, by omega⟩
   unfold laws_eqByteA2S.l0
   rw [if_neg (by omega)]
  | succ d ih =>
   intro i k hi hk
   obtain ⟨k, rfl⟩ : ∃ k', k = k' + 1 := ⟨k - 1, by omega⟩
   unfold laws_eqByteA2S.l0
   rw [if_pos (by omega), if_pos (by omega), if_pos (by omega), eqPair_self _ _ (by omega), Option.bind_some, if_pos rfl, wsucc i (by omega)]
   exact ih (i + 1) k (by omega) (by omega)
 unfold laws_eqByteA2S.f
 rw [if_pos rfl]
 exact key l.length 0 k (by omega) hk
theorem eqSystem_self (l0 : List Sg) (l1 : List P2) (h0 : l0.length ≤ 1048576) (h1 : l1.length ≤ 1048576) {k : Nat} (hk : l0.length < k) (hk1 : l1.length + 10 < k) : laws_eqSystem.f k l0 l1 l0 l1 = some true := by
 unfold laws_eqSystem.f
 rw [eqSigns_self l0 h0 hk, Option.bind_some, if_pos rfl, eqPairs_self l1 h1 hk1, Option.bind_some, if_pos rfl]
theorem szSystem_eq (L : List Lg) (M : List P2) (hL : L.length ≤ 9223372036854775807) (hM : M.length ≤ 9223372036854775807) : ∃ r, laws_szSystem.f L M 1048576 = some r ∧ (0 ≤ r → L.length ≤ 1048576 ∧ M.length ≤ 1048576) := by
 unfold laws_szSystem.f laws_szSignS.f laws_szByteA2S.f
 rw [show wrap64 (1048576 - (L.length : Int)) = 1048576 - (L.length : Int) from by unfold wrap64; omega]
 by_cases h : 1048576 - (L.length : Int) < 0
 ·rw [if_pos h, Option.bind_some, if_pos (by omega)]
  exact ⟨-1, rfl, fun h => by omega⟩
 ·rw [if_neg h, Option.bind_some, if_neg h, show wrap64 (1048576 - (L.length : Int) - (M.length : Int)) = 1048576 - (L.length : Int) - (M.length : Int) from by unfold wrap64; omega]
  by_cases h2 : 1048576 - (L.length : Int) - (M.length : Int) < 0
  ·rw [if_pos h2, Option.bind_some, if_pos (by omega)]
   exact ⟨-1, rfl, fun h => by omega⟩
  ·rw [if_neg h2, Option.bind_some, if_neg h2]
   exact ⟨_, rfl, fun _ => by omega⟩
def wfL (L : List Lg) (M : List P2) : Prop := (∀ s ∈ L, (0 ≤ s.f0 ∧ s.f0 ≤ 255) ∧ (-32768 ≤ s.f1 ∧ s.f1 ≤ 32767)) ∧ (∀ p ∈ M, (0 ≤ p.f0 ∧ p.f0 ≤ 255) ∧ (0 ≤ p.f1 ∧ p.f1 ≤ 255))
theorem wf_of {L : List Lg} {M : List P2} (h : wfL L M) : wfSys (L.map toSg) M := by
 refine ⟨fun s hs => ?_, fun p hp => ?_⟩
 ·obtain ⟨x, hx, rfl⟩ := List.mem_map.1 hs
  have := h.1 x hx
  exact ⟨this.1.1, this.1.2, this.2.1, this.2.2⟩
 ·have := h.2 p hp
  exact ⟨this.1.1, this.1.2, this.2.1, this.2.2⟩
end Go.Proofs.Ytlepbhlbooajmaa.Pure
namespace Go.Proofs.Ytlepbhlbooajmaa.Ext
end Go.Proofs.Ytlepbhlbooajmaa.Ext
namespace Go.Proofs.Ytlepbhlbooajmaa.Q
open Go.Proofs.Ytlepbhlbooajmaa.Ext
open Go.RowKit Go.Proofs.YtlepbhlbooajmaaW.PrintWords Go.Proofs.YtlepbhlbooajmaaW.PrintLast Go.Proofs.YtlepbhlbooajmaaW.PrintMore
attribute [local go_sem] max2_int min2_int max_two min_two max_three min_three max_four min_four
set_option linter.unusedVariables false
set_option linter.unusedSimpArgs false
def laws_FnExactShortestFor.j0 : Nat → Bool → List (S113) → List (S104) → List (S102) → List (S104) → Option (Bool)
 | 0, _, _, _, _, _ => none
 | k + 1, x38, x347000, x347001, x363000, x363001 => if x38 = true then (some false) else ((laws_toSystem.f k x347000 x347001).bind fun bt365 => ((laws_eqSystem.f k x363000 x363001 bt365.1 bt365.2).bind fun t371 => (if t371 = true then (some true) else (some false))))
def laws_FnExactShortestFor.f (k : Nat) (l0_0 : List (S113)) (l0_1 : List (S104)) (a1 : Int) : Option (Bool) := (laws_szSystem.f l0_0 l0_1 1048576).bind fun t347 => (if t347 < 0 then (some true) else ((laws_toSystem.f k l0_0 l0_1).bind fun bt348 => ((spec_ShortestFor.f k bt348.1 bt348.2 a1).bind fun bt354 => ((laws_toSystem.f k l0_0 l0_1).bind fun bt356 => ((impl_ShortestFor.f k bt356.1 bt356.2 a1).bind fun bt363 => (if bt363.1.toList = bt354.1.toList then (laws_FnExactShortestFor.j0 k (bt363.2 != bt354.2) l0_0 l0_1 bt356.1 bt356.2) else (laws_FnExactShortestFor.j0 k true l0_0 l0_1 bt356.1 bt356.2)))))))
set_option maxHeartbeats 8000000 in
set_option maxRecDepth 100000 in
theorem laws_FnExactShortestFor.calls (k : Nat) (A0_0 : Option Addr) (c0_0 : Nat) (l0_0 : List (S113)) (A0_1 : Option Addr) (c0_1 : Nat) (l0_1 : List (S104)) (a1 : Int) (r : Bool) (w : World) (hr0_0 : Kd.C k113 w A0_0 l0_0.length l0_0) (hc0_0 : l0_0.length ≤ c0_0) (hr0_1 : Kd.C k104 w A0_1 l0_1.length l0_1) (hc0_1 : l0_1.length ≤ c0_1) (h : laws_FnExactShortestFor.f k l0_0 l0_1 a1 = some r) :
  Calls Try.prog 4 #[.agg #[.slice A0_0 l0_0.length c0_0, .slice A0_1 l0_1.length c0_1], .int .i64 a1] w fun e w' => e = .returned (.bool r) ∧ Below w.heap.size w w' := by
 have hu25 := Try.underlying25
 have hu31 := Try.underlying31
 have HR0_0 := Aside0.mk hr0_0
 have HC0_0 := Aside0.mk hc0_0
 clear hr0_0 hc0_0
 have HR0_1 := Aside0.mk hr0_1
 have HC0_1 := Aside0.mk hc0_1
 clear hr0_1 hc0_1
 have HB := Aside0.mk (Below.refl w.heap.size w)
 have H : ((laws_szSystem.f l0_0 l0_1 1048576).bind fun t347 => (if t347 < 0 then (some true) else ((laws_toSystem.f k l0_0 l0_1).bind fun bt348 => ((spec_ShortestFor.f k bt348.1 bt348.2 a1).bind fun bt354 => ((laws_toSystem.f k l0_0 l0_1).bind fun bt356 => ((impl_ShortestFor.f k bt356.1 bt356.2 a1).bind fun bt363 => (if bt363.1.toList = bt354.1.toList then (laws_FnExactShortestFor.j0 k (bt363.2 != bt354.2) l0_0 l0_1 bt356.1 bt356.2) else (laws_FnExactShortestFor.j0 k true l0_0 l0_1 bt356.1 bt356.2)))))))) = some r := h
 clear h
 replace H := Option.bind_eq_some_iff.mp H
 obtain ⟨t347, A30, H⟩ := H
 (try dsimp only at H)
 have A3 := Aside0.mk A30
 clear A30
 by_cases c4 : t347 < 0
 ·rw [if_pos c4] at H
  have c4b0 : decide (t347 < 0) = true := decide_eq_true c4
  clear c4
  obtain rfl := Option.some.inj H
  go_enter Try.func4, Try.ntmps4
  go_wp2_with (first | ((with_reducible refine gate_dst (N := 2) rfl ?_); refine box_event ?hg (N := 2) ?hd (cs := #[.slice A0_0 l0_0.length c0_0, .slice A0_1 l0_1.length c0_1]) (t := 25) ?hr ?_; (case hd => rfl); (case hg => rfl); (case hr => first | (go_simp; done) | (go_simp; rfl)); intro gb346 hg w5 hbox hb; have n0_ := Aside0.mk (below_step (by repeat (first | (with_reducible first | exact HB.out | apply bwA | apply pwN | apply bw1) | exact HB.out)) hb); have n1_ := Aside0.mk (hbox); have n2_ := Aside0.mk ((by rw [hg]; exact (below_size (by repeat (first | (with_reducible first | exact HB.out | apply bwA | apply pwN | apply bw1) | exact HB.out))) : w.heap.size ≤ gb346)); have n3_ := Aside0.mk (n2_.out); clear HB; have HB := n0_; have BK346 := n1_; have GW346 := n2_; have GE346 := n3_; clear n0_ n1_ n2_ n3_; clear hb hbox hg; have hcz6_0 : w5.cell? ⟨gb346, 0, none⟩ = some (.slice A0_0 l0_0.length c0_0) := (blk_cell BK346.out 0).trans rfl; have hcz6_1 : w5.cell? ⟨gb346, 1, none⟩ = some (.slice A0_1 l0_1.length c0_1) := (blk_cell BK346.out 1).trans rfl; have hfz6_0 := blk_frozen BK346.out 0; have hfz6_1 := blk_frozen BK346.out 1) | ((with_reducible refine gate_callee (f := 7) rfl ?_); refine goesL_ (some 13) rfl rfl Try.func7 (by kernel_rfl) rfl #[.agg #[.slice A0_0 l0_0.length c0_0, .slice A0_1 l0_1.length c0_1], .int .i64 1048576] rfl (by (try simp only [List.map_toArray, List.map_cons, List.map_nil]); first | done | rfl | (simp only [List.length_drop, List.length_take]; rfl)) ?_; (with_reducible refine (laws_szSystem.calls _ _ l0_0 _ _ l0_1 1048576 t347 _ ?side1 ?side2 ?side3 ?side4 A3.out).mono ?_); (case side1 => repeat (first | exact (Kd.C_below HR0_0.out HB.out) | (with_reducible refine Kd.C_alloc ?_ _) | (with_reducible refine Kd.C_drewN ?_ _) | (with_reducible refine Kd.C_drew ?_))); (case side2 => exact HC0_0.out); (case side3 => repeat (first | exact (Kd.C_below HR0_1.out HB.out) | (with_reducible refine Kd.C_alloc ?_ _) | (with_reducible refine Kd.C_drewN ?_ _) | (with_reducible refine Kd.C_drew ?_))); (case side4 => exact HC0_1.out); rintro e w7 ⟨rfl, hb⟩; refine ⟨_, rfl, ?_⟩; have n0_ := Aside0.mk (blk_below (g := gb346) (by (with_reducible repeat (first | refine blk_drewN ?_ _ | refine blk_drew ?_ | refine blk_alloc ?_ _)); exact BK346.out) hb); have n1_ := Aside0.mk (below_step (by repeat (first | (with_reducible first | exact HB.out | apply bwA | apply pwN | apply bw1 | refine below_set ?_ GE346.out) | exact HB.out)) hb); clear BK346; clear HB; have BK346 := n0_; have HB := n1_; clear n0_ n1_; (try clear hb); (try clear hb2); (try clear hk); (try clear hi)))
  go_ret
  exact ⟨by first | rfl | (simp [errW_none, errW_some, i64_w]; done) | (simp [errW_none, errW_some] <;> rfl) | (simp [*, errW_none, errW_some] <;> rfl), by repeat (first | (with_reducible first | exact HB.out | apply bwA | apply pwN | apply bw1 | refine below_set ?_ GE346.out) | exact HB.out)⟩
 ·rw [if_neg c4] at H
  have c4b0 : decide (t347 < 0) = false := decide_eq_false c4
  clear c4
  replace H := Option.bind_eq_some_iff.mp H
  obtain ⟨⟨t348, t351⟩, A80, H⟩ := H
  (try dsimp only at H)
  have A8 := Aside0.mk A80
  clear A80
  replace H := Option.bind_eq_some_iff.mp H
  obtain ⟨⟨t354, t355⟩, A90, H⟩ := H
  (try dsimp only at H)
  have A9 := Aside0.mk A90
  clear A90
  replace H := Option.bind_eq_some_iff.mp H
  obtain ⟨⟨t356, t359⟩, A100, H⟩ := H
  (try dsimp only at H)
  have A10 := Aside0.mk A100
  clear A100
  replace H := Option.bind_eq_some_iff.mp H
  obtain ⟨⟨t363, t364⟩, A110, H⟩ := H
  (try dsimp only at H)
  have A11 := Aside0.mk A110
  clear A110
  have HC12 := Aside0.mk H
  clear H
  go_enter Try.func4, Try.ntmps4
  go_upto_region 8 with (first | ((with_reducible refine gate_dst (N := 2) rfl ?_); refine box_event ?hg (N := 2) ?hd (cs := #[.slice A0_0 l0_0.length c0_0, .slice A0_1 l0_1.length c0_1]) (t := 25) ?hr ?_; (case hd => rfl); (case hg => rfl); (case hr => first | (go_simp; done) | (go_simp; rfl)); intro gb346 hg w13 hbox hb; have n0_ := Aside0.mk (below_step (by repeat (first | (with_reducible first | exact HB.out | apply bwA | apply pwN | apply bw1) | exact HB.out)) hb); have n1_ := Aside0.mk (hbox); have n2_ := Aside0.mk ((by rw [hg]; exact (below_size (by repeat (first | (with_reducible first | exact HB.out | apply bwA | apply pwN | apply bw1) | exact HB.out))) : w.heap.size ≤ gb346)); have n3_ := Aside0.mk (n2_.out); clear HB; have HB := n0_; have BK346 := n1_; have GW346 := n2_; have GE346 := n3_; clear n0_ n1_ n2_ n3_; clear hb hbox hg; have hcz14_0 : w13.cell? ⟨gb346, 0, none⟩ = some (.slice A0_0 l0_0.length c0_0) := (blk_cell BK346.out 0).trans rfl; have hcz14_1 : w13.cell? ⟨gb346, 1, none⟩ = some (.slice A0_1 l0_1.length c0_1) := (blk_cell BK346.out 1).trans rfl; have hfz14_0 := blk_frozen BK346.out 0; have hfz14_1 := blk_frozen BK346.out 1) | ((with_reducible refine gate_callee (f := 7) rfl ?_); refine goesL_ (some 13) rfl rfl Try.func7 (by kernel_rfl) rfl #[.agg #[.slice A0_0 l0_0.length c0_0, .slice A0_1 l0_1.length c0_1], .int .i64 1048576] rfl (by (try simp only [List.map_toArray, List.map_cons, List.map_nil]); first | done | rfl | (simp only [List.length_drop, List.length_take]; rfl)) ?_; (with_reducible refine (laws_szSystem.calls _ _ l0_0 _ _ l0_1 1048576 t347 _ ?side1 ?side2 ?side3 ?side4 A3.out).mono ?_); (case side1 => repeat (first | exact (Kd.C_below HR0_0.out HB.out) | (with_reducible refine Kd.C_alloc ?_ _) | (with_reducible refine Kd.C_drewN ?_ _) | (with_reducible refine Kd.C_drew ?_))); (case side2 => exact HC0_0.out); (case side3 => repeat (first | exact (Kd.C_below HR0_1.out HB.out) | (with_reducible refine Kd.C_alloc ?_ _) | (with_reducible refine Kd.C_drewN ?_ _) | (with_reducible refine Kd.C_drew ?_))); (case side4 => exact HC0_1.out); rintro e w15 ⟨rfl, hb⟩; refine ⟨_, rfl, ?_⟩; have n0_ := Aside0.mk (blk_below (g := gb346) (by (with_reducible repeat (first | refine blk_drewN ?_ _ | refine blk_drew ?_ | refine blk_alloc ?_ _)); exact BK346.out) hb); have n1_ := Aside0.mk (below_step (by repeat (first | (with_reducible first | exact HB.out | apply bwA | apply pwN | apply bw1 | refine below_set ?_ GE346.out) | exact HB.out)) hb); clear BK346; clear HB; have BK346 := n0_; have HB := n1_; clear n0_ n1_; (try clear hb); (try clear hb2); (try clear hk); (try clear hi); have hcz16_0 : w15.cell? ⟨gb346, 0, none⟩ = some (.slice A0_0 l0_0.length c0_0) := (blk_cell BK346.out 0).trans rfl; have hcz16_1 : w15.cell? ⟨gb346, 1, none⟩ = some (.slice A0_1 l0_1.length c0_1) := (blk_cell BK346.out 1).trans rfl; have hfz16_0 := blk_frozen BK346.out 0; have hfz16_1 := blk_frozen BK346.out 1) | ((with_reducible refine gate_callee (f := 9) rfl ?_); refine goesL_ (some 18) rfl rfl Try.func9 (by kernel_rfl) rfl #[.agg #[.slice A0_0 l0_0.length c0_0, .slice A0_1 l0_1.length c0_1]] rfl (by (try simp only [List.map_toArray, List.map_cons, List.map_nil]); first | done | rfl | (simp only [List.length_drop, List.length_take]; rfl)) ?_; (with_reducible refine (laws_toSystem.calls k _ _ l0_0 _ _ l0_1 t348 t351 _ ?side1 ?side2 ?side3 ?side4 A8.out).mono ?_); (case side1 => repeat (first | exact (Kd.C_below HR0_0.out HB.out) | (with_reducible refine Kd.C_alloc ?_ _) | (with_reducible refine Kd.C_drewN ?_ _) | (with_reducible refine Kd.C_drew ?_))); (case side2 => exact HC0_0.out); (case side3 => repeat (first | exact (Kd.C_below HR0_1.out HB.out) | (with_reducible refine Kd.C_alloc ?_ _) | (with_reducible refine Kd.C_drewN ?_ _) | (with_reducible refine Kd.C_drew ?_))); (case side4 => exact HC0_1.out); rintro e w17 ⟨v349, v352, rfl, ho0, ho1, hb⟩; refine ⟨_, rfl, ?_⟩; have n0_ := Aside0.mk (Kd.R_lower ho0 (below_size (by repeat (first | (with_reducible first | exact HB.out | apply bwA | apply pwN | apply bw1 | refine below_set ?_ GE346.out) | exact HB.out)))); have n1_ := Aside0.mk (Kd.R_lower ho1 (below_size (by repeat (first | (with_reducible first | exact HB.out | apply bwA | apply pwN | apply bw1 | refine below_set ?_ GE346.out) | exact HB.out)))); have n2_ := Aside0.mk (blk_below (g := gb346) (by (with_reducible repeat (first | refine blk_drewN ?_ _ | refine blk_drew ?_ | refine blk_alloc ?_ _)); exact BK346.out) hb); have n3_ := Aside0.mk (below_step (by repeat (first | (with_reducible first | exact HB.out | apply bwA | apply pwN | apply bw1 | refine below_set ?_ GE346.out) | exact HB.out)) hb); clear BK346; clear HB; have HO350 := n0_; have HO353 := n1_; have BK346 := n2_; have HB := n3_; clear n0_ n1_ n2_ n3_; (try clear hb); (try clear hb2); (try clear hk); (try clear hi); (try clear ho0); (try clear ho1); obtain ⟨Ao18, co18, eo18⟩ := Kd.R_slice HO350.out; subst eo18; obtain ⟨Ao19, co19, eo19⟩ := Kd.R_slice HO353.out; subst eo19) | ((with_reducible refine gate_callee (f := 12) rfl ?_); refine goesL_ (some 20) rfl rfl Try.func12 (by kernel_rfl) rfl #[.agg #[.slice Ao18 t348.length co18, .slice Ao19 t351.length co19], .int .i64 a1] rfl (by (try simp only [List.map_toArray, List.map_cons, List.map_nil]); first | done | rfl | (simp only [List.length_drop, List.length_take]; rfl)) ?_; (with_reducible refine (spec_ShortestFor.calls k _ _ t348 _ _ t351 a1 t354 t355 _ ?side1 ?side2 ?side3 ?side4 A9.out).mono ?_); (case side1 => repeat (first | exact (Kd.R_reads' HO350.out).2.2 | (with_reducible refine Kd.C_alloc ?_ _) | (with_reducible refine Kd.C_drewN ?_ _) | (with_reducible refine Kd.C_drew ?_))); (case side2 => exact (Kd.R_reads' HO350.out).2.1); (case side3 => repeat (first | exact (Kd.R_reads' HO353.out).2.2 | (with_reducible refine Kd.C_alloc ?_ _) | (with_reducible refine Kd.C_drewN ?_ _) | (with_reducible refine Kd.C_drew ?_))); (case side4 => exact (Kd.R_reads' HO353.out).2.1); rintro e w20 ⟨rfl, hb⟩; refine ⟨_, rfl, ?_⟩; have n0_ := Aside0.mk (Kd.R_below (by (with_reducible repeat (first | apply Kd.R_alloc | apply Kd.R_drewN | apply Kd.R_drew)); exact HO350.out) hb); have n1_ := Aside0.mk (Kd.R_below (by (with_reducible repeat (first | apply Kd.R_alloc | apply Kd.R_drewN | apply Kd.R_drew)); exact HO353.out) hb); have n2_ := Aside0.mk (blk_below (g := gb346) (by (with_reducible repeat (first | refine blk_drewN ?_ _ | refine blk_drew ?_ | refine blk_alloc ?_ _)); exact BK346.out) hb); have n3_ := Aside0.mk (below_step (by repeat (first | (with_reducible first | exact HB.out | apply bwA | apply pwN | apply bw1 | refine below_set ?_ GE346.out) | exact HB.out)) hb); clear HO350; clear HO353; clear BK346; clear HB; have HO350 := n0_; have HO353 := n1_; have BK346 := n2_; have HB := n3_; clear n0_ n1_ n2_ n3_; (try clear hb); (try clear hb2); (try clear hk); (try clear hi); have hcz21_0 : w20.cell? ⟨gb346, 0, none⟩ = some (.slice A0_0 l0_0.length c0_0) := (blk_cell BK346.out 0).trans rfl; have hcz21_1 : w20.cell? ⟨gb346, 1, none⟩ = some (.slice A0_1 l0_1.length c0_1) := (blk_cell BK346.out 1).trans rfl; have hfz21_0 := blk_frozen BK346.out 0; have hfz21_1 := blk_frozen BK346.out 1) | ((with_reducible refine gate_callee (f := 9) rfl ?_); refine goesL_ (some 24) rfl rfl Try.func9 (by kernel_rfl) rfl #[.agg #[.slice A0_0 l0_0.length c0_0, .slice A0_1 l0_1.length c0_1]] rfl (by (try simp only [List.map_toArray, List.map_cons, List.map_nil]); first | done | rfl | (simp only [List.length_drop, List.length_take]; rfl)) ?_; (with_reducible refine (laws_toSystem.calls k _ _ l0_0 _ _ l0_1 t356 t359 _ ?side1 ?side2 ?side3 ?side4 A10.out).mono ?_); (case side1 => repeat (first | exact (Kd.C_below HR0_0.out HB.out) | (with_reducible refine Kd.C_alloc ?_ _) | (with_reducible refine Kd.C_drewN ?_ _) | (with_reducible refine Kd.C_drew ?_))); (case side2 => exact HC0_0.out); (case side3 => repeat (first | exact (Kd.C_below HR0_1.out HB.out) | (with_reducible refine Kd.C_alloc ?_ _) | (with_reducible refine Kd.C_drewN ?_ _) | (with_reducible refine Kd.C_drew ?_))); (case side4 => exact HC0_1.out); rintro e w22 ⟨v357, v360, rfl, ho0, ho1, hb⟩; refine ⟨_, rfl, ?_⟩; have n0_ := Aside0.mk (Kd.R_elder' (by (with_reducible repeat (first | apply Kd.R_alloc | apply Kd.R_drewN | apply Kd.R_drew)); exact HO350.out) (Kd.R_base ho0) hb); have n1_ := Aside0.mk (Kd.R_elder' (by (with_reducible repeat (first | apply Kd.R_alloc | apply Kd.R_drewN | apply Kd.R_drew)); exact HO353.out) (Kd.R_base ho1) hb); have n2_ := Aside0.mk (Kd.R_lower (Kd.R_new' ho0 (Kd.R_lt (by (with_reducible repeat (first | apply Kd.R_alloc | apply Kd.R_drewN | apply Kd.R_drew)); exact HO350.out))) (below_size (by repeat (first | (with_reducible first | exact HB.out | apply bwA | apply pwN | apply bw1 | refine below_set ?_ GE346.out) | exact HB.out)))); have n3_ := Aside0.mk (Kd.R_lower (Kd.R_new' ho1 (Kd.R_lt (by (with_reducible repeat (first | apply Kd.R_alloc | apply Kd.R_drewN | apply Kd.R_drew)); exact HO353.out))) (below_size (by repeat (first | (with_reducible first | exact HB.out | apply bwA | apply pwN | apply bw1 | refine below_set ?_ GE346.out) | exact HB.out)))); have n4_ := Aside0.mk (blk_below (g := gb346) (by (with_reducible repeat (first | refine blk_drewN ?_ _ | refine blk_drew ?_ | refine blk_alloc ?_ _)); exact BK346.out) hb); have n5_ := Aside0.mk (below_step (by repeat (first | (with_reducible first | exact HB.out | apply bwA | apply pwN | apply bw1 | refine below_set ?_ GE346.out) | exact HB.out)) hb); clear HO350; clear HO353; clear BK346; clear HB; have HO350 := n0_; have HO353 := n1_; have HO358 := n2_; have HO361 := n3_; have BK346 := n4_; have HB := n5_; clear n0_ n1_ n2_ n3_ n4_ n5_; (try clear hb); (try clear hb2); (try clear hk); (try clear hi); (try clear ho0); (try clear ho1)) | ((with_reducible refine gate_dst (N := 8) rfl ?_); refine box_event ?hg (N := 8) ?hd (cs := #[.slice none 0 0, .slice none 0 0]) (t := 31) ?hr ?_; (case hd => rfl); (case hg => rfl); (case hr => first | (go_simp; done) | (go_simp; rfl)); intro gb362 hg w23 hbox hb; have n0_ := Aside0.mk (Kd.R_below (by (with_reducible repeat (first | apply Kd.R_alloc | apply Kd.R_drewN | apply Kd.R_drew)); exact HO350.out) hb); have n1_ := Aside0.mk (Kd.R_below (by (with_reducible repeat (first | apply Kd.R_alloc | apply Kd.R_drewN | apply Kd.R_drew)); exact HO353.out) hb); have n2_ := Aside0.mk (Kd.R_below (by (with_reducible repeat (first | apply Kd.R_alloc | apply Kd.R_drewN | apply Kd.R_drew)); exact HO358.out) hb); have n3_ := Aside0.mk (Kd.R_below (by (with_reducible repeat (first | apply Kd.R_alloc | apply Kd.R_drewN | apply Kd.R_drew)); exact HO361.out) hb); have n4_ := Aside0.mk (blk_below (g := gb346) (by (with_reducible repeat (first | refine blk_drewN ?_ _ | refine blk_drew ?_ | refine blk_alloc ?_ _)); exact BK346.out) hb); have n5_ := Aside0.mk (below_step (by repeat (first | (with_reducible first | exact HB.out | apply bwA | apply pwN | apply bw1 | refine below_set ?_ GE346.out) | exact HB.out)) hb); have n6_ := Aside0.mk (hbox); have n7_ := Aside0.mk ((by rw [hg]; exact (below_size (by repeat (first | (with_reducible first | exact HB.out | apply bwA | apply pwN | apply bw1 | refine below_set ?_ GE346.out) | exact HB.out))) : w.heap.size ≤ gb362)); have n8_ := Aside0.mk (n7_.out); have n9_ := Aside0.mk ((by rw [hg]; exact Nat.ne_of_lt (blk_lt (g := gb346) (by (with_reducible repeat (first | refine blk_drewN ?_ _ | refine blk_drew ?_ | refine blk_alloc ?_ _)); exact BK346.out)) : gb346 ≠ gb362)); have n10_ := Aside0.mk ((Ne.symm n9_.out)); clear HO350; clear HO353; clear HO358; clear HO361; clear BK346; clear HB; have HO350 := n0_; have HO353 := n1_; have HO358 := n2_; have HO361 := n3_; have BK346 := n4_; have HB := n5_; have BK362 := n6_; have GW362 := n7_; have GE362 := n8_; have NB346_362 := n9_; have NB362_346 := n10_; clear n0_ n1_ n2_ n3_ n4_ n5_ n6_ n7_ n8_ n9_ n10_; clear hb hbox hg; obtain ⟨Ao24, co24, eo24⟩ := Kd.R_slice HO358.out; subst eo24; have hnb25 := NB362_346.out; have hnc25 := NB346_362.out; have hcz26_0 : w23.cell? ⟨gb362, 0, none⟩ = some (.slice none 0 0) := (blk_cell BK362.out 0).trans rfl; have hcz26_1 : w23.cell? ⟨gb362, 1, none⟩ = some (.slice none 0 0) := (blk_cell BK362.out 1).trans rfl; have hfz26_0 := blk_frozen BK362.out 0; have hfz26_1 := blk_frozen BK362.out 1; obtain ⟨Ao27, co27, eo27⟩ := Kd.R_slice HO361.out; subst eo27) | ((with_reducible refine gate_callee (f := 13) rfl ?_); refine goesL_ (some 28) rfl rfl Try.func13 (by kernel_rfl) rfl #[.agg #[.slice Ao24 t356.length co24, .slice Ao27 t359.length co27], .int .i64 a1] rfl (by (try simp only [List.map_toArray, List.map_cons, List.map_nil]); first | done | rfl | (simp only [List.length_drop, List.length_take]; rfl)) ?_; (with_reducible refine (impl_ShortestFor.calls k _ _ t356 _ _ t359 a1 t363 t364 _ ?side1 ?side2 ?side3 ?side4 A11.out).mono ?_); (case side1 => refine (Kd.R_reads' (e := 102) (base := w.heap.size) (ok := fun k_ => (True ∧ some k_ ≠ (.slice Ao18 t348.length co18 : Value).ownBlock)) (n := t356.length) (c := co24) ?_).2.2; exact (by (with_reducible repeat (first | apply Kd.R_alloc | apply Kd.R_drewN | apply Kd.R_drew)); exact (Kd.R_mono (Kd.R_far (p := ⟨gb362, 1, none⟩) (Kd.R_far (p := ⟨gb362, 0, none⟩) (Kd.R_types HO358.out BK362.out (by decide)) (fun _ hk => hk.2) (.slice Ao24 t356.length co24)) (fun _ hk => hk.2) (.slice Ao27 t359.length co27)) (fun _ h_ => h_.1)))); (case side2 => exact (Kd.R_reads' HO358.out).2.1); (case side3 => refine (Kd.R_reads' (e := 104) (base := w.heap.size) (ok := fun k_ => (True ∧ some k_ ≠ (.slice Ao19 t351.length co19 : Value).ownBlock)) (n := t359.length) (c := co27) ?_).2.2; exact (by (with_reducible repeat (first | apply Kd.R_alloc | apply Kd.R_drewN | apply Kd.R_drew)); exact (Kd.R_mono (Kd.R_far (p := ⟨gb362, 1, none⟩) (Kd.R_far (p := ⟨gb362, 0, none⟩) (Kd.R_types HO361.out BK362.out (by decide)) (fun _ hk => hk.2) (.slice Ao24 t356.length co24)) (fun _ hk => hk.2) (.slice Ao27 t359.length co27)) (fun _ h_ => h_.1)))); (case side4 => exact (Kd.R_reads' HO361.out).2.1); rintro e w28 ⟨rfl, hb⟩; refine ⟨_, rfl, ?_⟩; have n0_ := Aside0.mk (Kd.R_below (by (with_reducible repeat (first | apply Kd.R_alloc | apply Kd.R_drewN | apply Kd.R_drew)); exact (Kd.R_mono (Kd.R_far (p := ⟨gb362, 1, none⟩) (Kd.R_far (p := ⟨gb362, 0, none⟩) (Kd.R_types HO350.out BK362.out (by decide)) (fun _ hk => hk.2) (.slice Ao24 t356.length co24)) (fun _ hk => hk.2) (.slice Ao27 t359.length co27)) (fun _ h_ => h_.1))) hb); have n1_ := Aside0.mk (Kd.R_below (by (with_reducible repeat (first | apply Kd.R_alloc | apply Kd.R_drewN | apply Kd.R_drew)); exact (Kd.R_mono (Kd.R_far (p := ⟨gb362, 1, none⟩) (Kd.R_far (p := ⟨gb362, 0, none⟩) (Kd.R_types HO353.out BK362.out (by decide)) (fun _ hk => hk.2) (.slice Ao24 t356.length co24)) (fun _ hk => hk.2) (.slice Ao27 t359.length co27)) (fun _ h_ => h_.1))) hb); have n2_ := Aside0.mk (Kd.R_below (by (with_reducible repeat (first | apply Kd.R_alloc | apply Kd.R_drewN | apply Kd.R_drew)); exact (Kd.R_mono (Kd.R_far (p := ⟨gb362, 1, none⟩) (Kd.R_far (p := ⟨gb362, 0, none⟩) (Kd.R_types HO358.out BK362.out (by decide)) (fun _ hk => hk.2) (.slice Ao24 t356.length co24)) (fun _ hk => hk.2) (.slice Ao27 t359.length co27)) (fun _ h_ => h_.1))) hb); have n3_ := Aside0.mk (Kd.R_below (by (with_reducible repeat (first | apply Kd.R_alloc | apply Kd.R_drewN | apply Kd.R_drew)); exact (Kd.R_mono (Kd.R_far (p := ⟨gb362, 1, none⟩) (Kd.R_far (p := ⟨gb362, 0, none⟩) (Kd.R_types HO361.out BK362.out (by decide)) (fun _ hk => hk.2) (.slice Ao24 t356.length co24)) (fun _ hk => hk.2) (.slice Ao27 t359.length co27)) (fun _ h_ => h_.1))) hb); have n4_ := Aside0.mk (blk_below (g := gb346) (blk_far (p := ⟨gb362, _, none⟩) (blk_far (p := ⟨gb362, _, none⟩) BK346.out NB346_362.out _) NB346_362.out _) hb); have n5_ := Aside0.mk (blk_below (g := gb362) (blk_put (cs := #[.slice Ao24 t356.length co24, .slice none 0 0]) (blk_put (cs := #[.slice none 0 0, .slice none 0 0]) BK362.out 0 _ rfl) 1 _ rfl) hb); have n6_ := Aside0.mk (below_step (by repeat (first | (with_reducible first | exact HB.out | apply bwA | apply pwN | apply bw1 | refine below_set ?_ GE346.out | refine below_set ?_ GE362.out) | exact HB.out)) hb); clear HO350; clear HO353; clear HO358; clear HO361; clear BK346; clear BK362; clear HB; have HO350 := n0_; have HO353 := n1_; have HO358 := n2_; have HO361 := n3_; have BK346 := n4_; have BK362 := n5_; have HB := n6_; clear n0_ n1_ n2_ n3_ n4_ n5_ n6_; (try clear hb); (try clear hb2); (try clear hk); (try clear hi)))
  (try simp only [Act.put, List.setIfInBounds_toArray, List.set_cons_zero, List.set_cons_succ])
  go_cut [38] (fun v38 wc => ∃ (kq : Nat) (x38_11 : Bool), v38 = .bool x38_11 ∧ Aside0 (laws_FnExactShortestFor.j0 kq x38_11 l0_0 l0_1 t356 t359 = some r) ∧ Aside0 (kq ≤ k) ∧ Aside0 (Kd.R k102 102 wc w.heap.size (fun _ => True) (.slice Ao24 t356.length co24) t356) ∧ Aside0 (Kd.R k104 104 wc w.heap.size (fun _ => True) (.slice Ao27 t359.length co27) t359) ∧ Aside0 (wc.heap[gb346]? = some (.cells #[(.slice A0_0 l0_0.length c0_0), (.slice A0_1 l0_1.length c0_1)] 25 (0, 0))) ∧ Aside0 (wc.heap[gb362]? = some (.cells #[(.slice Ao24 t356.length co24), (.slice Ao27 t359.length co27)] 31 (0, 0))) ∧ Aside0 (Below w.heap.size w wc))
  case first =>
   have H := HC12.out
   clear HC12
   by_cases c29 : t363.toList = t354.toList
   ·rw [if_pos c29] at H
    have c29b0 : (t363.toList == t354.toList) = true := beq_iff_eq.mpr c29
    have c29b1 : (t363.toList != t354.toList) = false := bne_eq_false_iff_eq.mpr c29
    clear c29
    (first | rw [c29b0] | (simp only [i64_w, i32_w]; rw [c29b0]) | skip)
    have H' := Aside0.mk H
    clear H
    go_wp2
    go_meet
    case rel => exact ⟨_, ((t364 != t355)), (by first | rfl | (simp; done) | (simp [*]; done)), H', ⟨by first | omega | exact Nat.le_refl _⟩, ⟨by (with_reducible repeat (first | apply Kd.R_alloc | apply Kd.R_drewN | apply Kd.R_drew)); exact Kd.R_mono HO358.out (fun _ hk => trivial)⟩, ⟨by (with_reducible repeat (first | apply Kd.R_alloc | apply Kd.R_drewN | apply Kd.R_drew)); exact Kd.R_mono HO361.out (fun _ hk => trivial)⟩, ⟨by (with_reducible repeat (first | refine blk_drewN ?_ _ | refine blk_drew ?_ | refine blk_alloc ?_ _)); exact BK346.out⟩, ⟨by (with_reducible repeat (first | refine blk_drewN ?_ _ | refine blk_drew ?_ | refine blk_alloc ?_ _)); exact BK362.out⟩, ⟨by repeat (first | (with_reducible first | exact HB.out | apply bwA | apply pwN | apply bw1 | refine below_set ?_ GE346.out | refine below_set ?_ GE362.out) | exact HB.out)⟩⟩
   ·rw [if_neg c29] at H
    have c29b0 : (t363.toList == t354.toList) = false := beq_eq_false_iff_ne.mpr c29
    have c29b1 : (t363.toList != t354.toList) = true := bne_iff_ne.mpr c29
    (first | rw [c29b0] | (simp only [i64_w, i32_w]; rw [c29b0]) | skip)
    have H' := Aside0.mk H
    clear H
    go_wp2
    go_meet
    case rel => exact ⟨_, (true), (by first | rfl | (simp; done) | (simp [*]; done)), H', ⟨by first | omega | exact Nat.le_refl _⟩, ⟨by (with_reducible repeat (first | apply Kd.R_alloc | apply Kd.R_drewN | apply Kd.R_drew)); exact Kd.R_mono HO358.out (fun _ hk => trivial)⟩, ⟨by (with_reducible repeat (first | apply Kd.R_alloc | apply Kd.R_drewN | apply Kd.R_drew)); exact Kd.R_mono HO361.out (fun _ hk => trivial)⟩, ⟨by (with_reducible repeat (first | refine blk_drewN ?_ _ | refine blk_drew ?_ | refine blk_alloc ?_ _)); exact BK346.out⟩, ⟨by (with_reducible repeat (first | refine blk_drewN ?_ _ | refine blk_drew ?_ | refine blk_alloc ?_ _)); exact BK362.out⟩, ⟨by repeat (first | (with_reducible first | exact HB.out | apply bwA | apply pwN | apply bw1 | refine below_set ?_ GE346.out | refine below_set ?_ GE362.out) | exact HB.out)⟩⟩
  case rest =>
   clear HC12
   try clear c1
   try clear c2
   try clear p2
   try clear c4
   try clear c4b0
   try clear c7
   try clear c9
   try clear c12
   try clear c13
   try clear c25
   try clear c29
   try clear c29b0
   try clear c29b1
   try clear hcz14_0
   try clear hcz14_1
   try clear hcz16_0
   try clear hcz16_1
   try clear hcz21_0
   try clear hcz21_1
   try clear hcz26_0
   try clear hcz26_1
   try clear hcz6_0
   try clear hcz6_1
   try clear hfz14_0
   try clear hfz14_1
   try clear hfz16_0
   try clear hfz16_1
   try clear hfz21_0
   try clear hfz21_1
   try clear hfz26_0
   try clear hfz26_1
   try clear hfz6_0
   try clear hfz6_1
   obtain ⟨kq, x38_11, rfl, HA, HJ11, HO_363000, HO_363001, BK346, BK362, HB⟩ := hcut
   cases kq with
   | zero => exact absurd HA.out (by simp [laws_FnExactShortestFor.j0])
   | succ kj11 =>
    have H := HA.out
    clear HA
    simp only [laws_FnExactShortestFor.j0] at H
    by_cases c30 : x38_11 = true
    ·subst c30
     rw [if_pos rfl] at H
     have H1 := H
     clear H
     have H := H1
     clear H1
     obtain rfl := Option.some.inj H
     go_wp2
     go_ret
     exact ⟨by first | rfl | (simp [errW_none, errW_some, i64_w]; done) | (simp [errW_none, errW_some] <;> rfl) | (simp [*, errW_none, errW_some] <;> rfl), by repeat (first | (with_reducible first | exact HB.out | apply bwA | apply pwN | apply bw1 | refine below_set ?_ GE346.out | refine below_set ?_ GE362.out) | exact HB.out)⟩
    ·replace c30 := Bool.eq_false_iff.mpr c30
     subst c30
     rw [if_neg (show ¬ (false = true) by decide)] at H
     have H1 := H
     clear H
     have H := H1
     clear H1
     replace H := Option.bind_eq_some_iff.mp H
     obtain ⟨⟨t365, t368⟩, A310, H⟩ := H
     (try dsimp only at H)
     have A31 := Aside0.mk A310
     clear A310
     replace H := Option.bind_eq_some_iff.mp H
     obtain ⟨t371, A320, H⟩ := H
     (try dsimp only at H)
     have A32 := Aside0.mk A320
     clear A320
     by_cases c33 : t371 = true
     ·subst c33
      rw [if_pos rfl] at H
      have H1 := H
      clear H
      have H := H1
      clear H1
      obtain rfl := Option.some.inj H
      try go_wp2
      have n0_ := Aside0.mk (Kd.R_drew HO_363000.out)
      have n1_ := Aside0.mk (Kd.R_drew HO_363001.out)
      have n2_ := Aside0.mk (blk_drew BK346.out)
      have n3_ := Aside0.mk (blk_drew BK362.out)
      have n4_ := Aside0.mk (bw1 HB.out)
      clear HO_363000
      clear HO_363001
      clear BK346
      clear BK362
      clear HB
      have HO_363000 := n0_
      have HO_363001 := n1_
      have BK346 := n2_
      have BK362 := n3_
      have HB := n4_
      clear n0_ n1_ n2_ n3_ n4_
      refine start_ (n := 5) (S := fun w' => w'.cell? ⟨gb362, 0, none⟩ = some (.slice Ao24 t356.length co24) ∧ w'.cell? ⟨gb362, 1, none⟩ = some (.slice Ao27 t359.length co27) ∧ w'.cell? ⟨gb346, 0, none⟩ = some (.slice A0_0 l0_0.length c0_0) ∧ w'.cell? ⟨gb346, 1, none⟩ = some (.slice A0_1 l0_1.length c0_1)) (ds := []) #[false, false, false, false, false] (by kernel_rfl) rfl rfl ⟨(blk_cell BK362.out 0).trans rfl, (blk_cell BK362.out 1).trans rfl, (blk_cell BK346.out 0).trans rfl, (blk_cell BK346.out 1).trans rfl⟩ (fun hHeld => ?_)
      generalize wc.drew = w34 at HO_363000 HO_363001 BK346 BK362 HB hHeld ⊢
      refine take_ (i := 0) (N := some 39) (v := ?_) (a' := ?_) #[true, false, false, false, false] rfl rfl (by kernel_rfl) (fun _ _ _ h => h) (Or.inl ⟨by rfl, ?_⟩) hHeld ?_ ?_
      rotate_left
      ·rintro w' ⟨s0, s1, s2, s3⟩
       go_simp
       with_reducible rfl
      rotate_left
      ·simp only [Act.put, List.setIfInBounds_toArray, List.set_cons_zero, List.set_cons_succ, i64_w, i32_w, u8_w_]
       rfl
      refine take_ (i := 1) (N := some 40) (v := ?_) (a' := ?_) #[true, true, false, false, false] rfl rfl (by kernel_rfl) (fun _ _ _ h => h) (Or.inl ⟨by rfl, ?_⟩) hHeld ?_ ?_
      rotate_left
      ·rintro w' ⟨s0, s1, s2, s3⟩
       go_simp
       with_reducible rfl
      rotate_left
      ·simp only [Act.put, List.setIfInBounds_toArray, List.set_cons_zero, List.set_cons_succ, i64_w, i32_w, u8_w_]
       rfl
      refine one_ (i := 2) (N := some 41) #[true, true, true, false, false] rfl rfl (by kernel_rfl) (by decide) (fun K hK => ?_)
      refine goes_ Try.func9 (by kernel_rfl) rfl #[.agg #[.slice A0_0 l0_0.length c0_0, .slice A0_1 l0_1.length c0_1]] (by rfl) rfl rfl (by (try simp only [List.map_toArray, List.map_cons, List.map_nil]); first | done | rfl | (simp only [List.length_drop, List.length_take]; rfl)) ?_
      with_reducible refine (laws_toSystem.calls kj11 _ _ l0_0 _ _ l0_1 t365 t368 _ ?side1 ?side2 ?side3 ?side4 A31.out).mono ?_
      (case side1 => repeat (first | exact (Kd.C_below HR0_0.out HB.out) | (with_reducible refine Kd.C_alloc ?_ _) | (with_reducible refine Kd.C_drewN ?_ _) | (with_reducible refine Kd.C_drew ?_)))
      (case side2 => exact HC0_0.out)
      (case side3 => repeat (first | exact (Kd.C_below HR0_1.out HB.out) | (with_reducible refine Kd.C_alloc ?_ _) | (with_reducible refine Kd.C_drewN ?_ _) | (with_reducible refine Kd.C_drew ?_)))
      (case side4 => exact HC0_1.out)
      rintro e w35 ⟨v366, v369, rfl, ho0, ho1, hb⟩
      refine ⟨_, rfl, ?_⟩
      have n0_ := Aside0.mk (Kd.R_elder' (by (with_reducible repeat (first | apply Kd.R_alloc | apply Kd.R_drewN | apply Kd.R_drew)); exact HO_363000.out) (Kd.R_base ho0) hb)
      have n1_ := Aside0.mk (Kd.R_elder' (by (with_reducible repeat (first | apply Kd.R_alloc | apply Kd.R_drewN | apply Kd.R_drew)); exact HO_363001.out) (Kd.R_base ho1) hb)
      have n2_ := Aside0.mk (Kd.R_lower (Kd.R_new' ho0 (Kd.R_lt (by (with_reducible repeat (first | apply Kd.R_alloc | apply Kd.R_drewN | apply Kd.R_drew)); exact HO_363000.out))) (below_size (by repeat (first | (with_reducible first | exact HB.out | apply bwA | apply pwN | apply bw1 | refine below_set ?_ GE346.out | refine below_set ?_ GE362.out) | exact HB.out))))
      have n3_ := Aside0.mk (Kd.R_lower (Kd.R_new' ho1 (Kd.R_lt (by (with_reducible repeat (first | apply Kd.R_alloc | apply Kd.R_drewN | apply Kd.R_drew)); exact HO_363001.out))) (below_size (by repeat (first | (with_reducible first | exact HB.out | apply bwA | apply pwN | apply bw1 | refine below_set ?_ GE346.out | refine below_set ?_ GE362.out) | exact HB.out))))
      have n4_ := Aside0.mk (blk_below (g := gb346) (by (with_reducible repeat (first | refine blk_drewN ?_ _ | refine blk_drew ?_ | refine blk_alloc ?_ _)); exact BK346.out) hb)
      have n5_ := Aside0.mk (blk_below (g := gb362) (by (with_reducible repeat (first | refine blk_drewN ?_ _ | refine blk_drew ?_ | refine blk_alloc ?_ _)); exact BK362.out) hb)
      have n6_ := Aside0.mk (below_step (by repeat (first | (with_reducible first | exact HB.out | apply bwA | apply pwN | apply bw1 | refine below_set ?_ GE346.out | refine below_set ?_ GE362.out) | exact HB.out)) hb)
      clear HO_363000
      clear HO_363001
      clear BK346
      clear BK362
      clear HB
      have HO_363000 := n0_
      have HO_363001 := n1_
      have HO367 := n2_
      have HO370 := n3_
      have BK346 := n4_
      have BK362 := n5_
      have HB := n6_
      clear n0_ n1_ n2_ n3_ n4_ n5_ n6_
      (try clear hb)
      (try clear hb2)
      (try clear hk)
      (try clear hi)
      (try clear ho0)
      (try clear ho1)
      obtain ⟨Ao36, co36, eo36⟩ := Kd.R_slice HO367.out
      (first | subst eo36 | (injection eo36 with f1_ f2_ f3_; have f4_ := f1_.symm; have f5_ := f3_.symm; clear f1_ f2_ f3_; subst f4_; subst f5_))
      obtain ⟨Ao37, co37, eo37⟩ := Kd.R_slice HO370.out
      (first | subst eo37 | (injection eo37 with f1_ f2_ f3_; have f4_ := f1_.symm; have f5_ := f3_.symm; clear f1_ f2_ f3_; subst f4_; subst f5_))
      refine hK.out _ _ ⟨(blk_cell BK362.out 0).trans rfl, (blk_cell BK362.out 1).trans rfl, (blk_cell BK346.out 0).trans rfl, (blk_cell BK346.out 1).trans rfl⟩ (fun hHeld => ?_)
      clear hK K
      refine nm_ (some 41) ?_
      refine one_ (i := 3) (N := some 42) #[true, true, true, true, false] rfl rfl (by kernel_rfl) (by decide) (fun K hK => ?_)
      refine goes_ Try.func11 (by kernel_rfl) rfl #[.agg #[.slice Ao24 t356.length co24, .slice Ao27 t359.length co27], .agg #[.slice Ao36 t365.length co36, .slice Ao37 t368.length co37]] (by rfl) rfl rfl (by (try simp only [List.map_toArray, List.map_cons, List.map_nil]); first | done | rfl | (simp only [List.length_drop, List.length_take]; rfl)) ?_
      with_reducible refine (laws_eqSystem.calls kj11 _ _ t356 _ _ t359 _ _ t365 _ _ t368 true _ ?side1 ?side2 ?side3 ?side4 ?side5 ?side6 ?side7 ?side8 A32.out).mono ?_
      (case side1 => repeat (first | exact (Kd.R_reads' HO_363000.out).2.2 | (with_reducible refine Kd.C_alloc ?_ _) | (with_reducible refine Kd.C_drewN ?_ _) | (with_reducible refine Kd.C_drew ?_)))
      (case side2 => exact (Kd.R_reads' HO_363000.out).2.1)
      (case side3 => repeat (first | exact (Kd.R_reads' HO_363001.out).2.2 | (with_reducible refine Kd.C_alloc ?_ _) | (with_reducible refine Kd.C_drewN ?_ _) | (with_reducible refine Kd.C_drew ?_)))
      (case side4 => exact (Kd.R_reads' HO_363001.out).2.1)
      (case side5 => repeat (first | exact (Kd.R_reads' HO367.out).2.2 | (with_reducible refine Kd.C_alloc ?_ _) | (with_reducible refine Kd.C_drewN ?_ _) | (with_reducible refine Kd.C_drew ?_)))
      (case side6 => exact (Kd.R_reads' HO367.out).2.1)
      (case side7 => repeat (first | exact (Kd.R_reads' HO370.out).2.2 | (with_reducible refine Kd.C_alloc ?_ _) | (with_reducible refine Kd.C_drewN ?_ _) | (with_reducible refine Kd.C_drew ?_)))
      (case side8 => exact (Kd.R_reads' HO370.out).2.1)
      rintro e w38 ⟨rfl, hb⟩
      refine ⟨_, rfl, ?_⟩
      have n0_ := Aside0.mk (Kd.R_below (by (with_reducible repeat (first | apply Kd.R_alloc | apply Kd.R_drewN | apply Kd.R_drew)); exact HO_363000.out) hb)
      have n1_ := Aside0.mk (Kd.R_below (by (with_reducible repeat (first | apply Kd.R_alloc | apply Kd.R_drewN | apply Kd.R_drew)); exact HO_363001.out) hb)
      have n2_ := Aside0.mk (Kd.R_below (by (with_reducible repeat (first | apply Kd.R_alloc | apply Kd.R_drewN | apply Kd.R_drew)); exact HO367.out) hb)
      have n3_ := Aside0.mk (Kd.R_below (by (with_reducible repeat (first | apply Kd.R_alloc | apply Kd.R_drewN | apply Kd.R_drew)); exact HO370.out) hb)
      have n4_ := Aside0.mk (blk_below (g := gb346) (by (with_reducible repeat (first | refine blk_drewN ?_ _ | refine blk_drew ?_ | refine blk_alloc ?_ _)); exact BK346.out) hb)
      have n5_ := Aside0.mk (blk_below (g := gb362) (by (with_reducible repeat (first | refine blk_drewN ?_ _ | refine blk_drew ?_ | refine blk_alloc ?_ _)); exact BK362.out) hb)
      have n6_ := Aside0.mk (below_step (by repeat (first | (with_reducible first | exact HB.out | apply bwA | apply pwN | apply bw1 | refine below_set ?_ GE346.out | refine below_set ?_ GE362.out) | exact HB.out)) hb)
      clear HO_363000
      clear HO_363001
      clear HO367
      clear HO370
      clear BK346
      clear BK362
      clear HB
      have HO_363000 := n0_
      have HO_363001 := n1_
      have HO367 := n2_
      have HO370 := n3_
      have BK346 := n4_
      have BK362 := n5_
      have HB := n6_
      clear n0_ n1_ n2_ n3_ n4_ n5_ n6_
      (try clear hb)
      (try clear hb2)
      (try clear hk)
      (try clear hi)
      refine hK.out _ _ ⟨(blk_cell BK362.out 0).trans rfl, (blk_cell BK362.out 1).trans rfl, (blk_cell BK346.out 0).trans rfl, (blk_cell BK346.out 1).trans rfl⟩ (fun hHeld => ?_)
      clear hK K
      refine nm_ (some 42) ?_
      refine pure_ (i := 4) (N := some 43) (v := ?_) (a' := ?_) #[true, true, true, true, true] rfl rfl (by kernel_rfl) (fun _ _ _ h => h) (Or.inl ⟨by rfl, ?_⟩) ?_ ?_
      rotate_left
      ·intro w'
       go_simp
       with_reducible rfl
      rotate_left
      ·simp only [Act.put, List.setIfInBounds_toArray, List.set_cons_zero, List.set_cons_succ, i64_w, i32_w, u8_w_]
       rfl
      refine done_ (by kernel_rfl) ?_
      try go_wp2
      go_ret
      exact ⟨by first | rfl | (simp [errW_none, errW_some, i64_w]; done) | (simp [errW_none, errW_some] <;> rfl) | (simp [*, errW_none, errW_some] <;> rfl), by repeat (first | (with_reducible first | exact HB.out | apply bwA | apply pwN | apply bw1 | refine below_set ?_ GE346.out | refine below_set ?_ GE362.out) | exact HB.out)⟩
     ·replace c33 := Bool.eq_false_iff.mpr c33
      subst c33
      rw [if_neg (show ¬ (false = true) by decide)] at H
      have H1 := H
      clear H
      have H := H1
      clear H1
      obtain rfl := Option.some.inj H
      try go_wp2
      have n0_ := Aside0.mk (Kd.R_drew HO_363000.out)
      have n1_ := Aside0.mk (Kd.R_drew HO_363001.out)
      have n2_ := Aside0.mk (blk_drew BK346.out)
      have n3_ := Aside0.mk (blk_drew BK362.out)
      have n4_ := Aside0.mk (bw1 HB.out)
      clear HO_363000
      clear HO_363001
      clear BK346
      clear BK362
      clear HB
      have HO_363000 := n0_
      have HO_363001 := n1_
      have BK346 := n2_
      have BK362 := n3_
      have HB := n4_
      clear n0_ n1_ n2_ n3_ n4_
      refine start_ (n := 5) (S := fun w' => w'.cell? ⟨gb362, 0, none⟩ = some (.slice Ao24 t356.length co24) ∧ w'.cell? ⟨gb362, 1, none⟩ = some (.slice Ao27 t359.length co27) ∧ w'.cell? ⟨gb346, 0, none⟩ = some (.slice A0_0 l0_0.length c0_0) ∧ w'.cell? ⟨gb346, 1, none⟩ = some (.slice A0_1 l0_1.length c0_1)) (ds := []) #[false, false, false, false, false] (by kernel_rfl) rfl rfl ⟨(blk_cell BK362.out 0).trans rfl, (blk_cell BK362.out 1).trans rfl, (blk_cell BK346.out 0).trans rfl, (blk_cell BK346.out 1).trans rfl⟩ (fun hHeld => ?_)
      generalize wc.drew = w39 at HO_363000 HO_363001 BK346 BK362 HB hHeld ⊢
      refine take_ (i := 0) (N := some 39) (v := ?_) (a' := ?_) #[true, false, false, false, false] rfl rfl (by kernel_rfl) (fun _ _ _ h => h) (Or.inl ⟨by rfl, ?_⟩) hHeld ?_ ?_
      rotate_left
      ·rintro w' ⟨s0, s1, s2, s3⟩
       go_simp
       with_reducible rfl
      rotate_left
      ·simp only [Act.put, List.setIfInBounds_toArray, List.set_cons_zero, List.set_cons_succ, i64_w, i32_w, u8_w_]
       rfl
      refine take_ (i := 1) (N := some 40) (v := ?_) (a' := ?_) #[true, true, false, false, false] rfl rfl (by kernel_rfl) (fun _ _ _ h => h) (Or.inl ⟨by rfl, ?_⟩) hHeld ?_ ?_
      rotate_left
      ·rintro w' ⟨s0, s1, s2, s3⟩
       go_simp
       with_reducible rfl
      rotate_left
      ·simp only [Act.put, List.setIfInBounds_toArray, List.set_cons_zero, List.set_cons_succ, i64_w, i32_w, u8_w_]
       rfl
      refine one_ (i := 2) (N := some 41) #[true, true, true, false, false] rfl rfl (by kernel_rfl) (by decide) (fun K hK => ?_)
      refine goes_ Try.func9 (by kernel_rfl) rfl #[.agg #[.slice A0_0 l0_0.length c0_0, .slice A0_1 l0_1.length c0_1]] (by rfl) rfl rfl (by (try simp only [List.map_toArray, List.map_cons, List.map_nil]); first | done | rfl | (simp only [List.length_drop, List.length_take]; rfl)) ?_
      with_reducible refine (laws_toSystem.calls kj11 _ _ l0_0 _ _ l0_1 t365 t368 _ ?side1 ?side2 ?side3 ?side4 A31.out).mono ?_
      (case side1 => repeat (first | exact (Kd.C_below HR0_0.out HB.out) | (with_reducible refine Kd.C_alloc ?_ _) | (with_reducible refine Kd.C_drewN ?_ _) | (with_reducible refine Kd.C_drew ?_)))
      (case side2 => exact HC0_0.out)
      (case side3 => repeat (first | exact (Kd.C_below HR0_1.out HB.out) | (with_reducible refine Kd.C_alloc ?_ _) | (with_reducible refine Kd.C_drewN ?_ _) | (with_reducible refine Kd.C_drew ?_)))
      (case side4 => exact HC0_1.out)
      rintro e w40 ⟨v366, v369, rfl, ho0, ho1, hb⟩
      refine ⟨_, rfl, ?_⟩
      have n0_ := Aside0.mk (Kd.R_elder' (by (with_reducible repeat (first | apply Kd.R_alloc | apply Kd.R_drewN | apply Kd.R_drew)); exact HO_363000.out) (Kd.R_base ho0) hb)
      have n1_ := Aside0.mk (Kd.R_elder' (by (with_reducible repeat (first | apply Kd.R_alloc | apply Kd.R_drewN | apply Kd.R_drew)); exact HO_363001.out) (Kd.R_base ho1) hb)
      have n2_ := Aside0.mk (Kd.R_lower (Kd.R_new' ho0 (Kd.R_lt (by (with_reducible repeat (first | apply Kd.R_alloc | apply Kd.R_drewN | apply Kd.R_drew)); exact HO_363000.out))) (below_size (by repeat (first | (with_reducible first | exact HB.out | apply bwA | apply pwN | apply bw1 | refine below_set ?_ GE346.out | refine below_set ?_ GE362.out) | exact HB.out))))
      have n3_ := Aside0.mk (Kd.R_lower (Kd.R_new' ho1 (Kd.R_lt (by (with_reducible repeat (first | apply Kd.R_alloc | apply Kd.R_drewN | apply Kd.R_drew)); exact HO_363001.out))) (below_size (by repeat (first | (with_reducible first | exact HB.out | apply bwA | apply pwN | apply bw1 | refine below_set ?_ GE346.out | refine below_set ?_ GE362.out) | exact HB.out))))
      have n4_ := Aside0.mk (blk_below (g := gb346) (by (with_reducible repeat (first | refine blk_drewN ?_ _ | refine blk_drew ?_ | refine blk_alloc ?_ _)); exact BK346.out) hb)
      have n5_ := Aside0.mk (blk_below (g := gb362) (by (with_reducible repeat (first | refine blk_drewN ?_ _ | refine blk_drew ?_ | refine blk_alloc ?_ _)); exact BK362.out) hb)
      have n6_ := Aside0.mk (below_step (by repeat (first | (with_reducible first | exact HB.out | apply bwA | apply pwN | apply bw1 | refine below_set ?_ GE346.out | refine below_set ?_ GE362.out) | exact HB.out)) hb)
      clear HO_363000
      clear HO_363001
      clear BK346
      clear BK362
      clear HB
      have HO_363000 := n0_
      have HO_363001 := n1_
      have HO367 := n2_
      have HO370 := n3_
      have BK346 := n4_
      have BK362 := n5_
      have HB := n6_
      clear n0_ n1_ n2_ n3_ n4_ n5_ n6_
      (try clear hb)
      (try clear hb2)
      (try clear hk)
      (try clear hi)
      (try clear ho0)
      (try clear ho1)
      obtain ⟨Ao41, co41, eo41⟩ := Kd.R_slice HO367.out
      (first | subst eo41 | (injection eo41 with f1_ f2_ f3_; have f4_ := f1_.symm; have f5_ := f3_.symm; clear f1_ f2_ f3_; subst f4_; subst f5_))
      obtain ⟨Ao42, co42, eo42⟩ := Kd.R_slice HO370.out
      (first | subst eo42 | (injection eo42 with f1_ f2_ f3_; have f4_ := f1_.symm; have f5_ := f3_.symm; clear f1_ f2_ f3_; subst f4_; subst f5_))
      refine hK.out _ _ ⟨(blk_cell BK362.out 0).trans rfl, (blk_cell BK362.out 1).trans rfl, (blk_cell BK346.out 0).trans rfl, (blk_cell BK346.out 1).trans rfl⟩ (fun hHeld => ?_)
      clear hK K
      refine nm_ (some 41) ?_
      refine one_ (i := 3) (N := some 42) #[true, true, true, true, false] rfl rfl (by kernel_rfl) (by decide) (fun K hK => ?_)
      refine goes_ Try.func11 (by kernel_rfl) rfl #[.agg #[.slice Ao24 t356.length co24, .slice Ao27 t359.length co27], .agg #[.slice Ao41 t365.length co41, .slice Ao42 t368.length co42]] (by rfl) rfl rfl (by (try simp only [List.map_toArray, List.map_cons, List.map_nil]); first | done | rfl | (simp only [List.length_drop, List.length_take]; rfl)) ?_
      with_reducible refine (laws_eqSystem.calls kj11 _ _ t356 _ _ t359 _ _ t365 _ _ t368 false _ ?side1 ?side2 ?side3 ?side4 ?side5 ?side6 ?side7 ?side8 A32.out).mono ?_
      (case side1 => repeat (first | exact (Kd.R_reads' HO_363000.out).2.2 | (with_reducible refine Kd.C_alloc ?_ _) | (with_reducible refine Kd.C_drewN ?_ _) | (with_reducible refine Kd.C_drew ?_)))
      (case side2 => exact (Kd.R_reads' HO_363000.out).2.1)
      (case side3 => repeat (first | exact (Kd.R_reads' HO_363001.out).2.2 | (with_reducible refine Kd.C_alloc ?_ _) | (with_reducible refine Kd.C_drewN ?_ _) | (with_reducible refine Kd.C_drew ?_)))
      (case side4 => exact (Kd.R_reads' HO_363001.out).2.1)
      (case side5 => repeat (first | exact (Kd.R_reads' HO367.out).2.2 | (with_reducible refine Kd.C_alloc ?_ _) | (with_reducible refine Kd.C_drewN ?_ _) | (with_reducible refine Kd.C_drew ?_)))
      (case side6 => exact (Kd.R_reads' HO367.out).2.1)
      (case side7 => repeat (first | exact (Kd.R_reads' HO370.out).2.2 | (with_reducible refine Kd.C_alloc ?_ _) | (with_reducible refine Kd.C_drewN ?_ _) | (with_reducible refine Kd.C_drew ?_)))
      (case side8 => exact (Kd.R_reads' HO370.out).2.1)
      rintro e w43 ⟨rfl, hb⟩
      refine ⟨_, rfl, ?_⟩
      have n0_ := Aside0.mk (Kd.R_below (by (with_reducible repeat (first | apply Kd.R_alloc | apply Kd.R_drewN | apply Kd.R_drew)); exact HO_363000.out) hb)
      have n1_ := Aside0.mk (Kd.R_below (by (with_reducible repeat (first | apply Kd.R_alloc | apply Kd.R_drewN | apply Kd.R_drew)); exact HO_363001.out) hb)
      have n2_ := Aside0.mk (Kd.R_below (by (with_reducible repeat (first | apply Kd.R_alloc | apply Kd.R_drewN | apply Kd.R_drew)); exact HO367.out) hb)
      have n3_ := Aside0.mk (Kd.R_below (by (with_reducible repeat (first | apply Kd.R_alloc | apply Kd.R_drewN | apply Kd.R_drew)); exact HO370.out) hb)
      have n4_ := Aside0.mk (blk_below (g := gb346) (by (with_reducible repeat (first | refine blk_drewN ?_ _ | refine blk_drew ?_ | refine blk_alloc ?_ _)); exact BK346.out) hb)
      have n5_ := Aside0.mk (blk_below (g := gb362) (by (with_reducible repeat (first | refine blk_drewN ?_ _ | refine blk_drew ?_ | refine blk_alloc ?_ _)); exact BK362.out) hb)
      have n6_ := Aside0.mk (below_step (by repeat (first | (with_reducible first | exact HB.out | apply bwA | apply pwN | apply bw1 | refine below_set ?_ GE346.out | refine below_set ?_ GE362.out) | exact HB.out)) hb)
      clear HO_363000
      clear HO_363001
      clear HO367
      clear HO370
      clear BK346
      clear BK362
      clear HB
      have HO_363000 := n0_
      have HO_363001 := n1_
      have HO367 := n2_
      have HO370 := n3_
      have BK346 := n4_
      have BK362 := n5_
      have HB := n6_
      clear n0_ n1_ n2_ n3_ n4_ n5_ n6_
      (try clear hb)
      (try clear hb2)
      (try clear hk)
      (try clear hi)
      refine hK.out _ _ ⟨(blk_cell BK362.out 0).trans rfl, (blk_cell BK362.out 1).trans rfl, (blk_cell BK346.out 0).trans rfl, (blk_cell BK346.out 1).trans rfl⟩ (fun hHeld => ?_)
      clear hK K
      refine nm_ (some 42) ?_
      refine pure_ (i := 4) (N := some 43) (v := ?_) (a' := ?_) #[true, true, true, true, true] rfl rfl (by kernel_rfl) (fun _ _ _ h => h) (Or.inl ⟨by rfl, ?_⟩) ?_ ?_
      rotate_left
      ·intro w'
       go_simp
       with_reducible rfl
      rotate_left
      ·simp only [Act.put, List.setIfInBounds_toArray, List.set_cons_zero, List.set_cons_succ, i64_w, i32_w, u8_w_]
       rfl
      refine done_ (by kernel_rfl) ?_
      try go_wp2
      go_ret
      exact ⟨by first | rfl | (simp [errW_none, errW_some, i64_w]; done) | (simp [errW_none, errW_some] <;> rfl) | (simp [*, errW_none, errW_some] <;> rfl), by repeat (first | (with_reducible first | exact HB.out | apply bwA | apply pwN | apply bw1 | refine below_set ?_ GE346.out | refine below_set ?_ GE362.out) | exact HB.out)⟩
end Go.Proofs.Ytlepbhlbooajmaa.Q
namespace Go.Proofs.Ytlepbhlbooajmaa.Pure
open Go.RowKit Go.Proofs.Ytlepbhlbooajmaa.Ext Go.Proofs.Ytlepbhlbooajmaa.Q Go.Proofs.YtlepbhlbooajmaaW.PrintWords Go.Proofs.YtlepbhlbooajmaaW.PrintLast Go.Proofs.YtlepbhlbooajmaaW.PrintMore
set_option linter.unusedVariables false
set_option linter.unusedSimpArgs false
theorem shortestFor_law (L : List Lg) (M : List P2) (n : Int) (hL : L.length ≤ 9223372036854775807) (hM : M.length ≤ 9223372036854775807) (hw : wfL L M) {k : Nat} (hk : 5000000 < k) : laws_FnExactShortestFor.f k L M n = some true := by
 obtain ⟨k, rfl⟩ : ∃ k', k = k' + 1 := ⟨k - 1, by omega⟩
 unfold laws_FnExactShortestFor.f
 obtain ⟨r, hr, hb⟩ := szSystem_eq L M hL hM
 rw [hr, Option.bind_some]
 by_cases h0 : r < 0
 ·rw [if_pos h0]
 ·obtain ⟨b0, b1⟩ := hb (by omega)
  have b2 : (L.map toSg).length ≤ 1048576 := by simpa using b0
  rw [if_neg h0, toSystem_eq L M b0 b1 (by omega) (by omega), Option.bind_some]
  dsimp only
  rw [spec_short_eq (wf_of hw) n (by omega), Option.bind_some, Option.bind_some, impl_short_eq (wf_of hw) n (by omega), Option.bind_some, if_pos rfl, bne_self_eq_false]
  simp only [laws_FnExactShortestFor.j0, Bool.false_eq_true, if_false]
  rw [toSystem_eq L M b0 b1 (by omega) (by omega), Option.bind_some]
  dsimp only
  rw [eqSystem_self _ _ b2 b1 (by omega) (by omega), Option.bind_some, if_pos rfl]
theorem shortestFor_walk (A0 : Option Addr) (c0 : Nat) (L : List Lg) (A1 : Option Addr) (c1 : Nat) (M : List P2) (hc0 : L.length ≤ c0) (hm0 : c0 ≤ 9223372036854775807) (hc1 : M.length ≤ c1) (hm1 : c1 ≤ 9223372036854775807) (hw : wfL L M) (n : Int) (w : World) (hr0 : Kd.C k113 w A0 L.length L) (hr1 : Kd.C k104 w A1 M.length M) :
  Calls Try.prog 4 #[.agg #[.slice A0 L.length c0, .slice A1 M.length c1], .int .i64 n] w fun e w' => e = .returned (.bool true) ∧ Below w.heap.size w w' :=
 laws_FnExactShortestFor.calls 5000001 A0 c0 L A1 c1 M n true w hr0 hc0 hr1 hc1 (shortestFor_law L M n (by omega) (by omega) hw (by omega))
end Go.Proofs.Ytlepbhlbooajmaa.Pure
namespace Go.Proofs.Ytlepbhlbooajmaa.Open
open Go.ChangeShapes Go.WideShapes Go.ChangeAt Go.RowKit Go.Proofs.Ytlepbhlbooajmaa.Ext Go.Proofs.YtlepbhlbooajmaaW.PrintWords
set_option linter.unusedVariables false
set_option linter.unusedSimpArgs false
variable {H : Type} {enc : TypeId × Value → H} {P : Program} {w : World} {spare : Nat → Bool} {held : Bool} {t : TypeId}
theorem arr_list {k : IntKind} {n : Nat} {e : TypeId} {fuel : Nat} {cs : List Value} {x : DataW H × List MemPlace} (ht : P.underlying t = some (.array n e)) (he : P.underlying e = some (.int k)) (hc : P.cellsOf e = 1) (hn : P.cellsOf t = n)
  (h : DataW.trod enc P w 0 spare held fuel t cs = some x) : ∃ l : List Int, cs = nums k l ∧ l.length = n ∧ ∀ y ∈ l, (Lit.int k y).wf = true := by
 obtain ⟨xs, m, _, _, hl, hxs, hi⟩ := DataW.trod_array ht h
 rw [hn] at hl
 have each : ∀ i, i < n → ∃ y, cs[i]? = some (.int k y) ∧ (Lit.int k y).wf = true := by
  intro i hi'
  have h2 := hi i hi'
  rw [hc, Nat.mul_one] at h2
  obtain ⟨z, hz⟩ : ∃ z, xs[i]? = some z := ⟨xs[i]'(by omega), List.getElem?_eq_getElem (by omega)⟩
  rw [hz] at h2
  obtain ⟨y, hy, _, hw⟩ := DataW.trod_int he h2
  refine ⟨y, ?_, hw⟩
  have := congrArg (fun l => l[0]?) hy
  simpa [List.getElem?_take, List.getElem?_drop] using this
 refine ⟨cs.map fun v => (intOf v), ?_, by simpa using hl, ?_⟩
 ·apply List.ext_getElem?
  intro i
  by_cases hi' : i < n
  ·obtain ⟨y, hy, _⟩ := each i hi'
   simp [nums, hy, intOf]
  ·rw [List.getElem?_eq_none (by omega), List.getElem?_eq_none (by simp [nums]; omega)]
 ·intro y hy
  rw [List.mem_map] at hy
  obtain ⟨v, hv, rfl⟩ := hy
  obtain ⟨i, hi', rfl⟩ := List.mem_iff_getElem.1 hv
  obtain ⟨y, hy, hw⟩ := each i (by omega)
  rw [List.getElem?_eq_getElem hi'] at hy
  injection hy with hy
  rw [hy]; exact hw
theorem wf_i16 {y : Int} (h : (Lit.int .i16 y).wf = true) : -32768 ≤ y ∧ y ≤ 32767 := by simpa [Lit.wf, IntKind.min, IntKind.max, IntKind.signed, IntKind.bits] using h
theorem wf_u8 {y : Int} (h : (Lit.int .u8 y).wf = true) : 0 ≤ y ∧ y ≤ 255 := by simpa [Lit.wf, IntKind.min, IntKind.max, IntKind.signed, IntKind.bits] using h
open Go.ChangeShapes Go.WideShapes Go.ChangeAt Go.RowKit Go.Deep Go.Proofs.Ytlepbhlbooajmaa.Ext Go.Proofs.Ytlepbhlbooajmaa.Q Go.Proofs.YtlepbhlbooajmaaW.PrintWords
variable {H : Type} {enc : TypeId × Value → H} {P : Program} {w : World} {spare : Nat → Bool} {held : Bool}
instance : Inhabited S113 := ⟨z113⟩
instance : Inhabited S104 := ⟨z104⟩
theorem open_sgs {t e : TypeId} {f0 f1 : Field} {fuel : Nat} {cs : List Value} {x : DataW H × List MemPlace} (ht : P.underlying t = some (.slice e)) (he : P.underlying e = some (.struct #[f0, f1])) (ce : P.cellsOf e = 2) (o0 : f0.offset = 0) (o1 : f1.offset = 1) (c0 : P.cellsOf f0.type = 1) (c1 : P.cellsOf f1.type = 1)
  (u0 : P.underlying f0.type = some (.int .u8)) (u1 : P.underlying f1.type = some (.int .i16))
  (h : DataW.trod enc P w 0 spare held fuel t cs = some x) :
  ∃ (A : Option Addr) (c : Nat) (ps : List S113), cs = [.slice A ps.length c] ∧ ps.length ≤ c ∧ c ≤ maxLen ∧ Kd.C k113 w A ps.length ps ∧ ∀ q ∈ ps, (0 ≤ q.f0 ∧ q.f0 ≤ 255) ∧ (-32768 ≤ q.f1 ∧ q.f1 ≤ 32767) := by
 rcases open_slice ht h with ⟨rfl, _⟩ | ⟨a, len, cap, m, n, D, Pl, rfl, hb, hl, hm, hmm, rfl, hx⟩
 ·exact ⟨none, 0, [], rfl, Nat.le_refl _, Nat.zero_le _, ⟨rfl, by simp, fun hp => absurd hp (by simp)⟩, by simp⟩
 have hlm : len ≤ m := by rw [hmm]; split <;> omega
 have each : ∀ i, i < len → ∃ q : S113, (w.cell? (a.add (i * 2)) = some (.int .u8 q.f0) ∧ w.cell? (a.add (i * 2 + 1)) = some (.int .i16 q.f1)) ∧ (0 ≤ q.f0 ∧ q.f0 ≤ 255) ∧ (-32768 ≤ q.f1 ∧ q.f1 ≤ 32767) := by
  intro i hi
  obtain ⟨cs', h1, h2⟩ := hx i (by omega)
  rw [ce] at h1
  obtain ⟨_, hlen, hcell⟩ := World.cells?_some h1
  obtain ⟨xs, k, hk, hxy, _, hxl, hf⟩ := DataW.trod_struct he h2
  match xs, hxl, cs', hlen with
  | [y0, y1], _, [v0, v1], _ =>
   have g0 := hf 0 f0 rfl
   have g1 := hf 1 f1 rfl
   simp [o0, o1, c0, c1] at g0 g1
   obtain ⟨z0, q0, _, w0⟩ := DataW.trod_int u0 g0
   obtain ⟨z1, q1, _, w1⟩ := DataW.trod_int u1 g1
   obtain rfl : v0 = .int .u8 z0 := by simpa using q0
   obtain rfl : v1 = .int .i16 z1 := by simpa using q1
   have e0 := hcell 0 (by omega)
   have e1 := hcell 1 (by omega)
   rw [Deep.add_add] at e0 e1
   exact ⟨⟨z0, z1⟩, ⟨by simpa using e0, by simpa using e1⟩, wf_u8 w0, wf_i16 w1⟩
 obtain ⟨q, hq⟩ := choose_lt each
 refine ⟨some a, cap, (List.range len).map q, by simp, by simpa using hl, hm, ⟨by simp, by simp; unfold maxLen at hm; omega, fun hp => ⟨a, rfl, fun j p hj => ?_⟩⟩, ?_⟩
 ·obtain ⟨hlt, rfl⟩ := List.getElem?_eq_some_iff.1 hj
  have hjl : j < len := by simpa using hlt
  obtain ⟨⟨h0, h1⟩, _⟩ := hq j hjl
  refine ⟨[.int .u8 (q j).f0, .int .i16 (q j).f1], rfl, by simpa using k113_mk w (q j), fun i u hi => ?_⟩
  match i, hi with
  | 0, hi => simp at hi; subst hi; exact h0
  | 1, hi => simp at hi; subst hi; exact h1
 ·intro p hp
  rw [List.mem_map] at hp
  obtain ⟨j, hj, rfl⟩ := hp
  exact (hq j (by simpa using hj)).2
theorem open_p2s {t e b : TypeId} {fuel : Nat} {cs : List Value} {x : DataW H × List MemPlace} (ht : P.underlying t = some (.slice e)) (he : P.underlying e = some (.array 2 b)) (hb8 : P.underlying b = some (.int .u8)) (cb : P.cellsOf b = 1) (ce : P.cellsOf e = 2)
  (h : DataW.trod enc P w 0 spare held fuel t cs = some x) :
  ∃ (A : Option Addr) (c : Nat) (ps : List S104), cs = [.slice A ps.length c] ∧ ps.length ≤ c ∧ c ≤ maxLen ∧ Kd.C k104 w A ps.length ps ∧ ∀ q ∈ ps, (0 ≤ q.f0 ∧ q.f0 ≤ 255) ∧ (0 ≤ q.f1 ∧ q.f1 ≤ 255) := by
 rcases open_slice ht h with ⟨rfl, _⟩ | ⟨a, len, cap, m, n, D, Pl, rfl, hb, hl, hm, hmm, rfl, hx⟩
 ·exact ⟨none, 0, [], rfl, Nat.le_refl _, Nat.zero_le _, ⟨rfl, by simp, fun hp => absurd hp (by simp)⟩, by simp⟩
 have hlm : len ≤ m := by rw [hmm]; split <;> omega
 have each : ∀ i, i < len → ∃ q : S104, (w.cell? (a.add (i * 2)) = some (.int .u8 q.f0) ∧ w.cell? (a.add (i * 2 + 1)) = some (.int .u8 q.f1)) ∧ (0 ≤ q.f0 ∧ q.f0 ≤ 255) ∧ (0 ≤ q.f1 ∧ q.f1 ≤ 255) := by
  intro i hi
  obtain ⟨cs', h1, h2⟩ := hx i (by omega)
  rw [ce] at h1
  obtain ⟨_, hlen, hcell⟩ := World.cells?_some h1
  obtain ⟨l, q1, q2, q3⟩ := arr_list he hb8 cb ce h2
  match l, q2 with
  | [z0, z1], _ =>
   have q1' : cs' = [.int .u8 z0, .int .u8 z1] := q1
   subst q1'
   have e0 := hcell 0 (by omega)
   have e1 := hcell 1 (by omega)
   rw [Deep.add_add] at e0 e1
   exact ⟨⟨z0, z1⟩, ⟨by simpa using e0, by simpa using e1⟩, wf_u8 (q3 z0 (by simp)), wf_u8 (q3 z1 (by simp))⟩
 obtain ⟨q, hq⟩ := choose_lt each
 refine ⟨some a, cap, (List.range len).map q, by simp, by simpa using hl, hm, ⟨by simp, by simp; unfold maxLen at hm; omega, fun hp => ⟨a, rfl, fun j p hj => ?_⟩⟩, ?_⟩
 ·obtain ⟨hlt, rfl⟩ := List.getElem?_eq_some_iff.1 hj
  have hjl : j < len := by simpa using hlt
  obtain ⟨⟨h0, h1⟩, _⟩ := hq j hjl
  refine ⟨[.int .u8 (q j).f0, .int .u8 (q j).f1], rfl, by simpa using k104_mk w (q j), fun i u hi => ?_⟩
  match i, hi with
  | 0, hi => simp at hi; subst hi; exact h0
  | 1, hi => simp at hi; subst hi; exact h1
 ·intro p hp
  rw [List.mem_map] at hp
  obtain ⟨j, hj, rfl⟩ := hp
  exact (hq j (by simpa using hj)).2
theorem open_sys {r : Reach} {b0 : Nat} {t : TypeId} {f0 f1 g0 g1 : Field} {e ep b : TypeId} {v : Value} {d : DataW H} {p : List MemPlace} (ht : P.underlying t = some (.struct #[f0, f1])) (o0 : f0.offset = 0) (o1 : f1.offset = 1) (c0 : P.cellsOf f0.type = 1) (c1 : P.cellsOf f1.type = 1) (hC : P.cellsOf t = 2)
  (h0 : P.underlying f0.type = some (.slice e)) (he : P.underlying e = some (.struct #[g0, g1])) (ce : P.cellsOf e = 2) (p0 : g0.offset = 0) (p1 : g1.offset = 1) (d0 : P.cellsOf g0.type = 1) (d1 : P.cellsOf g1.type = 1) (u0 : P.underlying g0.type = some (.int .u8)) (u1 : P.underlying g1.type = some (.int .i16))
  (h1 : P.underlying f1.type = some (.slice ep)) (hep : P.underlying ep = some (.array 2 b)) (hb8 : P.underlying b = some (.int .u8)) (cb : P.cellsOf b = 1) (cp : P.cellsOf ep = 2)
  (hv : Value.okWide P w r b0 t v) (h : DataW.Trod enc P w 0 spare held t v d p) :
  ∃ (A : Option Addr) (c : Nat) (ps : List S113) (A1 : Option Addr) (k1 : Nat) (ms : List S104), v = .agg #[.slice A ps.length c, .slice A1 ms.length k1] ∧ ps.length ≤ c ∧ c ≤ maxLen ∧ Kd.C k113 w A ps.length ps ∧ (∀ q ∈ ps, (0 ≤ q.f0 ∧ q.f0 ≤ 255) ∧ (-32768 ≤ q.f1 ∧ q.f1 ≤ 32767)) ∧
   ms.length ≤ k1 ∧ k1 ≤ maxLen ∧ Kd.C k104 w A1 ms.length ms ∧ ∀ q ∈ ms, (0 ≤ q.f0 ∧ q.f0 ≤ 255) ∧ (0 ≤ q.f1 ∧ q.f1 ≤ 255) := by
 obtain ⟨cs, rfl, _⟩ := okWide_struct ht hv
 obtain ⟨fuel, hf⟩ := h
 obtain ⟨xs, m, _, _, hl, hxs, hi⟩ := DataW.trod_struct ht hf
 have hlen : xs.length = 2 := by simpa using hxs
 rw [hC] at hl
 have get : ∀ i, i < 2 → ∃ z, xs[i]? = some z := fun i hi' => ⟨xs[i]'(by omega), List.getElem?_eq_getElem (by omega)⟩
 have e0 := hi 0 f0 rfl
 have e1 := hi 1 f1 rfl
 obtain ⟨z0, hz0⟩ := get 0 (by omega)
 obtain ⟨z1, hz1⟩ := get 1 (by omega)
 rw [hz0, o0, c0, List.drop_zero] at e0
 rw [hz1, o1, c1] at e1
 obtain ⟨A, c, ps, s1, s2, s3, s4, s5⟩ := open_sgs h0 he ce p0 p1 d0 d1 u0 u1 e0
 obtain ⟨A1, k1, ms, t1, t2, t3, t4, t5⟩ := open_p2s h1 hep hb8 cb cp e1
 refine ⟨A, c, ps, A1, k1, ms, ?_, s2, s3, s4, s5, t2, t3, t4, t5⟩
 have e : (Value.agg cs).cells.toList = [.slice A ps.length c, .slice A1 ms.length k1] := by
  generalize (Value.agg cs).cells.toList = L at *
  match L, hl with
  | [a, b], _ =>
   have q0 : a = .slice A ps.length c := by simpa using s1
   have q1 : b = .slice A1 ms.length k1 := by simpa using t1
   rw [q0, q1]
 congr 1
 apply Array.toList_inj.1
 simpa [Value.cells] using e
end Go.Proofs.Ytlepbhlbooajmaa.Open
