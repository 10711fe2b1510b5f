/- Contracts and plain laws of functions of the given program; no conditions beside those in the theorems. -/
import Derived.Test.YticjkfacdmmopaaDoorC3FillWord
import Derived.Deep.MidRow
import Derived.Test.YticjkfacdmmopaaDoorWTab
import Derived.ChangeKeysEq
namespace Go.Proofs.YticjkfacdmmopaaDoor.Ext
open Go.RowKit Go.Proofs.YticjkfacdmmopaaDoor.Q Go.Proofs.YticjkfacdmmopaaDoor.Face Go.Proofs.YticjkfacdmmopaaDoorW.PrintWords Go.Proofs.YticjkfacdmmopaaDoorW.PrintLast Go.Proofs.YticjkfacdmmopaaDoorW.PrintMore
set_option linter.unusedVariables false
set_option linter.unusedSimpArgs false
theorem q_same {P : Program} {f : FuncId} {args : Array Value} {w : World} {n : Nat} {v : Value}
  (h : Calls P f args (w.drewN n) fun e w' => e = .returned v ∧ w.drewN n = w') : Calls P f args (w.drewN n) fun e w'' => e = .returned v ∧ ∃ m, w'' = w.drewN m :=
 h.mono fun _ _ ⟨he, hm⟩ => ⟨he, n, hm.symm⟩
def letB (x : Int) : Bool := decide (65 ≤ x) && decide (x ≤ 90)
set_option maxHeartbeats 400000 in
theorem sletter_calls (x : Int) (w : World) : Calls Tryd.prog 118 #[.int .u8 x] w fun e w' => e = .returned (.bool (letB x)) ∧ w = w' := by
 unfold letB
 by_cases h : 65 ≤ x
 ·have h1 : decide (65 ≤ x) = true := by simpa using h
  go_enter Tryd.func118, Tryd.ntmps118
  go_wp2
  go_ret
  exact ⟨by simp [h], rfl⟩
 ·have h1 : decide (65 ≤ x) = false := by simpa using h
  go_enter Tryd.func118, Tryd.ntmps118
  go_wp2
  go_ret
  exact ⟨by simp [h], rfl⟩
theorem sletter_as (x : Int) (w : World) {b : Bool} (h : letB x = b) : Calls Tryd.prog 118 #[.int .u8 x] w fun e w' => e = .returned (.bool b) ∧ w = w' := by
 subst h; exact sletter_calls x w
theorem in_as (a b c : Int) (w : World) {r : Bool} (h : inB a b c = r) : Calls Tryd.prog 84 #[.int .i64 a, .int .i64 b, .int .i64 c] w fun e w' => e = .returned (.bool r) ∧ w = w' := by
 subst h; exact in_calls a b c w
theorem cellF {w : World} {g : Nat} {t : TypeId} {l : List Int} {A : Option Addr} {n c : Nat} (h : w.heap[g]? = some (.cells (faceV l A n c) t (0, 0))) (j : Nat) (hj : j < l.length) {x : Int} (hx : rd l j = x) : w.cell? ⟨g, j, none⟩ = some (.int .i8 x) := by
 rw [← hx]; exact face_cell h j hj
theorem all_range_false {p : Nat → Bool} {m n : Nat} (h : n < m) (hp : p n = false) : (List.range m).all p = false := by
 rw [Bool.eq_false_iff]
 intro ha
 have := List.all_eq_true.1 ha n (by simpa using h)
 rw [hp] at this; cases this
theorem pairAt_eq {g : Int} {P : List Pr} {n : Nat} {x0 x1 x2 : Int} (hp : (⟨x0, x1, x2⟩ : Pr) = rd_T137 P n) :
  pairAt g P n = ((letB x0 && (letB x1 && (inB x2 (-10) 10 && (x2 != 0 && decide (0 ≤ IntKind.i8.wrap (g + x2)))))) && (n == 0 || (decide ((rd_T137 P ((n - 1 : Nat) : Int)).f0 < x0) || ((rd_T137 P ((n - 1 : Nat) : Int)).f0 == x0 && decide ((rd_T137 P ((n - 1 : Nat) : Int)).f1 < x1))))) := by
 have e1 : P.getD n ⟨0, 0, 0⟩ = ⟨x0, x1, x2⟩ := by rw [hp]; unfold rd_T137; rw [Int.toNat_natCast]; rfl
 have e2 : P.getD (n - 1) ⟨0, 0, 0⟩ = rd_T137 P ((n - 1 : Nat) : Int) := by unfold rd_T137; rw [Int.toNat_natCast]; rfl
 unfold pairAt letB
 simp only [e1, e2, Bool.and_assoc]
def aheadB (z0 z1 x0 x1 : Int) : Bool := decide (z0 < x0) || (z0 == x0 && decide (z1 < x1))
theorem ahead_eq (z0 z1 z2 x0 x1 x2 : Int) : spec_l01Ahead.f z0 z1 z2 x0 x1 x2 = some (aheadB z0 z1 x0 x1) := by
 unfold spec_l01Ahead.f aheadB
 repeat' split
 all_goals simp_all
theorem cellB {w w1 : World} {p : Addr} {v : Value} (h : w.cell? p = some v) (hb : Below w.heap.size w w1) : w1.cell? p = some v := (hb.cell (World.block_lt_of_cell? w _ h)).trans h
def shapeTab.T14 : Bool × List (List Nat × List Nat) := (true, [([], []), ([0], [0]), ([1], [1]), ([2], [2]), ([3, 2], [2, 3]), ([4, 2], [2, 4]), ([5, 2], [2, 5]), ([2], [2]), ([7, 2], [2, 7]), ([6, 8, 2], [2, 6, 8]), ([9, 2], [2, 9]), ([2], [2]), ([10, 11, 2, 2], [2, 10, 11]), ([12, 2], [2, 12]), ([2, 13], [2, 13])])
def shapeTab.B14 : List Nat := [0, 1, 3, 7, 15, 31, 63, 7, 135, 511, 1023, 7, 4095, 8191, 16383]
theorem shapeTab.tab14 : rtab .any (opsOf Tryd.f117 14) = shapeTab.T14 := by kernel_rfl
theorem shapeTab.bits14 : waitsOk shapeTab.T14.2 shapeTab.B14 = true := by kernel_rfl
set_option maxHeartbeats 2000000 in
set_option maxRecDepth 10000 in
theorem l01Shape_calls (g : Nat) (l : List Int) (hl : l.length = 28) (hw : ∀ y ∈ l, -128 ≤ y ∧ y ≤ 127) (A : Option Addr) (c : Nat) (P : List Pr) (hP : ∀ p ∈ P, (0 ≤ p.f0 ∧ p.f0 ≤ 255) ∧ (0 ≤ p.f1 ∧ p.f1 ≤ 255) ∧ (-128 ≤ p.f2 ∧ p.f2 ≤ 127)) (w : World)
  (hg : w.heap[g]? = some (.cells (faceV l A P.length c) 32 (0, 0))) (hr : Kd.C kPr w A P.length P) :
  Calls Tryd.prog 117 #[.pointer (some ⟨g, 0, none⟩)] w fun e w' => e = .returned (.bool (shapeB l P)) ∧ Below w.heap.size w w' := by
 have HG := Aside0.mk hg
 have HL := Aside0.mk hl
 have HR := Aside0.mk hr
 have HW := Aside0.mk hw
 have HP := Aside0.mk hP
 have hbig : P.length ≤ 9223372036854775807 := hr.2.1
 clear hg hl hr hw hP
 go_enter Tryd.func117, Tryd.ntmps117
 go_wp2
 go_loop [3] (fun i => ∃ n : Nat, n ≤ 26 ∧ i = .int .i64 n ∧ Aside0 ((l.take n).all (fun n => inB n 1 40) = true)) (fun i => 26 - (intOf i).toNat)
 case atStart => exact ⟨0, by omega, rfl, ⟨by simp⟩⟩
 case round =>
  obtain ⟨n, hn, rfl, HA⟩ := hrel
  by_cases hlt : n < 26
  ·have hltz : (n : Int) < 26 := by omega
   have hc := face_cell HG.out n (by have := HL.out; omega)
   have hbd := HW.out _ (rd_mem' l n (by have := HL.out; omega))
   have HS := Aside0.mk (all_snoc' (fun n => inB n 1 40) l n (by have := HL.out; omega))
   have HF : Aside0 (inB (rd l n) 1 40 = false → (l.take 26).all (fun n => inB n 1 40) = false) := ⟨fun h => by
    have h0 : n < (l.take 26).length := by rw [List.length_take]; have := HL.out; omega
    refine all_take_false (fun n => inB n 1 40) (l.take 26) n h0 ?_
    rw [show rd (l.take 26) (n : Int) = rd l n by simp [rd, List.getD_eq_getElem?_getD, List.getElem?_take, hlt]]
    exact h⟩
   obtain ⟨hb1, hb2⟩ := hbd
   generalize rd l n = y at hc hb1 hb2 HS HF
   go_wp2_with fail
   refine (in_calls _ _ _ _).mono ?_
   rintro e w' ⟨rfl, rfl⟩
   cases hy : inB y 1 40
   ·have HY := Aside0.mk hy
    clear hy
    go_wp2_with fail
    go_ret
    exact ⟨by unfold shapeB; rw [HF.out HY.out]; rfl, Below.refl _ _⟩
   ·have HY := Aside0.mk hy
    clear hy
    go_wp2_with fail
    go_round
    case rel => exact ⟨n + 1, by omega, by go_num, ⟨by rw [HS.out, HA.out, HY.out]; rfl⟩⟩
    case measure => simp [intOf]; omega
  ·have hltz : ¬ (n : Int) < 26 := by omega
   obtain rfl : n = 26 := by omega
   obtain ⟨y0, hy0⟩ : ∃ y, rd l (26 : Nat) = y := ⟨_, rfl⟩
   obtain ⟨y1, hy1⟩ : ∃ y, rd l (27 : Nat) = y := ⟨_, rfl⟩
   have ha := cellF HG.out 26 (by have := HL.out; omega) hy0
   have hb := cellF HG.out 27 (by have := HL.out; omega) hy1
   have w0 := HW.out _ (rd_mem' l 26 (by have := HL.out; omega))
   have w1 := HW.out _ (rd_mem' l 27 (by have := HL.out; omega))
   rw [hy0] at w0
   rw [hy1] at w1
   have Y0 := Aside0.mk hy0
   have Y1 := Aside0.mk hy1
   clear hy0 hy1
   obtain ⟨w01, w02⟩ := w0
   obtain ⟨w11, w12⟩ := w1
   have E0 : Aside0 (∀ x z, inB y0 1 40 = x → inB y1 0 10 = z → shapeB l P = (pairsB y1 P && (x && z))) := ⟨fun x z hx hz => by
    unfold shapeB
    rw [HA.out, Bool.true_and, show rd l 26 = y0 from Y0.out, show rd l 27 = y1 from Y1.out, hx, hz]⟩
   go_wp2_with fail
   refine (in_calls _ _ _ _).mono ?_
   rintro e w' ⟨rfl, rfl⟩
   cases hz0 : inB y0 1 40
   ·have Z0 := Aside0.mk hz0
    clear hz0
    go_wp2_with fail
    go_ret
    exact ⟨by rw [E0.out _ _ Z0.out rfl]; simp, Below.refl _ _⟩
   ·have Z0 := Aside0.mk hz0
    clear hz0
    go_wp2_with fail
    refine (in_calls _ _ _ _).mono ?_
    rintro e w' ⟨rfl, rfl⟩
    cases hz1 : inB y1 0 10
    ·have Z1 := Aside0.mk hz1
     clear hz1
     go_wp2_with fail
     go_ret
     exact ⟨by rw [E0.out _ _ Z0.out Z1.out]; simp, Below.refl _ _⟩
    ·have Z1 := Aside0.mk hz1
     clear hz1
     have hcs := face_pairs HG.out HL.out
     clear ha
     go_wp2_with fail
     go_loopw [4] (fun i wr => ∃ n : Nat, n ≤ P.length ∧ i = .int .i64 n ∧ Aside0 (Below w.heap.size w wr) ∧ Aside0 ((List.range n).all (pairAt y1 P) = true)) (fun i _ => P.length - (intOf i).toNat)
     case atStart => exact ⟨0, by omega, rfl, ⟨Below.refl _ _⟩, ⟨rfl⟩⟩
     case round =>
      obtain ⟨n, hn, rfl, HB, HA2⟩ := hrel
      have hcs' := cellB hcs HB.out
      have hb' := cellB hb HB.out
      have HC := Aside0.mk hcs
      have HB0 := Aside0.mk hb
      clear hcs hb
      by_cases hlt : n < P.length
      ·have hltz : (n : Int) < (P.length : Int) := by omega
       obtain ⟨p, hp⟩ : ∃ p, p = rd_T137 P n := ⟨_, rfl⟩
       obtain ⟨ad, rfl, c0, c1, c2⟩ := at_T137 (Kd.C_below HR.out HB.out) n (by omega) (by omega)
       rw [Int.toNat_natCast] at c0 c1 c2
       rw [← hp] at c0 c1 c2
       have hpm : p ∈ P := by rw [hp]; unfold rd_T137; rw [Int.toNat_natCast, List.getD_eq_getElem?_getD, List.getElem?_eq_getElem hlt]; exact List.getElem_mem hlt
       obtain ⟨⟨b1, b2⟩, ⟨b3, b4⟩, b5, b6⟩ := HP.out p hpm
       obtain ⟨x0, x1, x2⟩ := p
       simp only at c0 c1 c2 b1 b2 b3 b4 b5 b6
       have HPn := Aside0.mk hp
       clear hpm
       have PA := Aside0.mk (pairAt_eq (g := y1) hp)
       have PF : Aside0 (pairAt y1 P n = false → shapeB l P = false) := ⟨fun h => by rw [E0.out _ _ Z0.out Z1.out]; unfold pairsB; rw [all_range_false hlt h]; rfl⟩
       obtain ⟨g0, g1⟩ := inB_iff.1 Z1.out
       have hlt2 : g < wr.heap.size := World.block_lt_of_cell? wr _ hb'
       have hne : ¬ g = wr.heap.size := by omega
       have hne2 : ¬ wr.heap.size = g := by omega
       clear hp
       go_wp2_with fail
       cases hA : letB x0
       ·go_quiet (first | (go_at_call 118; exact q_same (sletter_as _ _ hA)))
        go_wp2_with fail
        go_ret
        exact ⟨by rw [PF.out (by rw [PA.out, hA]; first | rfl | simp)]; rfl, (by repeat (first | exact HB.out | apply bwA | apply pwN | apply bw1 | (refine Below.setCell ?_ (by have := HB.out.size; simp; omega) _)))⟩
       ·cases hB : letB x1
        ·go_quiet (first | (go_at_call 118; exact q_same (sletter_as _ _ hA)) | (go_at_call 118; exact q_same (sletter_as _ _ hB)))
         go_wp2_with fail
         go_ret
         exact ⟨by rw [PF.out (by rw [PA.out, hA, hB]; first | rfl | simp)]; rfl, (by repeat (first | exact HB.out | apply bwA | apply pwN | apply bw1 | (refine Below.setCell ?_ (by have := HB.out.size; simp; omega) _)))⟩
        ·cases hC : inB x2 (-10) 10
         ·go_quiet (first | (go_at_call 118; exact q_same (sletter_as _ _ hA)) | (go_at_call 118; exact q_same (sletter_as _ _ hB)) | (go_at_call 84; exact q_same (in_as _ _ _ _ hC)))
          go_wp2_with fail
          go_ret
          exact ⟨by rw [PF.out (by rw [PA.out, hA, hB, hC]; first | rfl | simp)]; rfl, (by repeat (first | exact HB.out | apply bwA | apply pwN | apply bw1 | (refine Below.setCell ?_ (by have := HB.out.size; simp; omega) _)))⟩
         ·obtain ⟨k0, k1⟩ := inB_iff.1 hC
          have hwz : IntKind.i8.wrap (y1 + x2) = y1 + x2 := by simp [IntKind.wrap, IntKind.signed, IntKind.bits]; omega
          have HWZ := Aside0.mk hwz
          clear hwz
          cases hD : (x2 == 0)
          ·cases hE : decide (y1 + x2 < 0)
           ·go_quiet (first | (go_at_call 118; exact q_same (sletter_as _ _ hA)) | (go_at_call 118; exact q_same (sletter_as _ _ hB)) | (go_at_call 84; exact q_same (in_as _ _ _ _ hC)))
            have hD' : (x2 != 0) = true := by rw [bne, hD]; rfl
            have HE : Aside0 (decide (0 ≤ y1 + x2) = true) := ⟨by have := of_decide_eq_false hE; exact decide_eq_true (by omega)⟩
            have PA2 : Aside0 (pairAt y1 P n = (n == 0 || (decide ((rd_T137 P ((n - 1 : Nat) : Int)).f0 < x0) || ((rd_T137 P ((n - 1 : Nat) : Int)).f0 == x0 && decide ((rd_T137 P ((n - 1 : Nat) : Int)).f1 < x1))))) := ⟨by rw [PA.out, hA, hB, hC, hD', HWZ.out, HE.out]; rfl⟩
            clear hA hB hC hD hD' hE
            go_wp2_with fail
            cases n with
            | zero =>
             go_region
             go_wp2_with fail
             go_roundw
             case rel => exact ⟨1, by omega, by go_num, ⟨(by repeat (first | exact HB.out | apply bwA | apply pwN | apply bw1))⟩, ⟨by rw [show List.range 1 = [0] from rfl]; simp [PA2.out]⟩⟩
             case measure => simp [intOf]; omega
            | succ m =>
             have hsub : ((m + 1 : Nat) : Int) - 1 = (m : Int) := by omega
             have hwm : wrap64 (m : Int) = (m : Int) := by unfold wrap64; omega
             have hml : (m : Int) < (P.length : Int) := by omega
             have hpos : 0 < m + 1 := by omega
             obtain ⟨q, hq⟩ : ∃ q, q = rd_T137 P m := ⟨_, rfl⟩
             obtain ⟨ad', e', d0, d1, d2⟩ := at_T137 (Kd.C_below HR.out HB.out) m (by omega) (by omega)
             injection e' with e'
             subst e'
             rw [Int.toNat_natCast] at d0 d1 d2
             rw [← hq] at d0 d1 d2
             have PA3 := Aside0.mk PA2.out
             rw [show m + 1 - 1 = m by omega, ← hq] at PA3
             have Hq := Aside0.mk hq
             clear hq PA PA2
             obtain ⟨z0, z1, z2⟩ := q
             simp only at d0 d1 d2 PA3
             have hlt3 : ad.block < wr.heap.size := by have := World.block_lt_of_cell? wr _ d0; rwa [add_block] at this
             have hne3 : ¬ ad.block = wr.heap.size := by omega
             have hne4 : ¬ wr.heap.size = ad.block := by omega
             generalize hWd : ((wr.alloc (Obj.cells #[Value.int .u8 x0, Value.int .u8 x1, Value.int .i8 x2] 137)).drewN nq) = W
             have BW : Below wr.heap.size wr W := by subst hWd; exact pwN (bwA (Below.refl _ _) _) _
             have hnew : W.heap[wr.heap.size]? = some (Obj.cells #[Value.int .u8 x0, Value.int .u8 x1, Value.int .i8 x2] 137 (0, 0)) := by subst hWd; exact blk_drewN (blk_new wr _) _
             have f28 := cellB hcs' BW
             have f0 := cellB d0 BW
             have f1 := cellB d1 BW
             have f2 := cellB d2 BW
             have n0 : W.cell? ⟨wr.heap.size, 0, none⟩ = some (.int .u8 x0) := (blk_cell hnew 0).trans rfl
             have n1 : W.cell? ⟨wr.heap.size, 1, none⟩ = some (.int .u8 x1) := (blk_cell hnew 1).trans rfl
             have n2 : W.cell? ⟨wr.heap.size, 2, none⟩ = some (.int .i8 x2) := (blk_cell hnew 2).trans rfl
             have HBW := Aside0.mk (below_step HB.out BW)
             clear hWd BW hnew d0 d1 d2 hcs' hb' HB c0 c1 c2 hne hne2 hne3 hne4
             refine start_ (n := 15) (S := fun w' => w'.cell? ⟨g, 28, none⟩ = some (.slice (some ad) P.length c) ∧ w'.cell? (ad.add (m * 3)) = some (.int .u8 z0) ∧ w'.cell? ⟨(ad.add (m * 3)).block, (ad.add (m * 3)).off + 1, none⟩ = some (.int .u8 z1) ∧ w'.cell? ⟨(ad.add (m * 3)).block, (ad.add (m * 3)).off + 2, none⟩ = some (.int .i8 z2) ∧ w'.cell? ⟨wr.heap.size, 0, none⟩ = some (.int .u8 x0) ∧ w'.cell? ⟨wr.heap.size, 1, none⟩ = some (.int .u8 x1) ∧ w'.cell? ⟨wr.heap.size, 2, none⟩ = some (.int .i8 x2)) (ds := [12]) #[false, false, false, false, false, false, false, false, false, false, false, false, false, false, false] (by kernel_rfl) rfl rfl ⟨f28, f0, f1, f2, n0, n1, n2⟩ (fun hHeld => ?_)
             refine with_tabW shapeTab.tab14 shapeTab.bits14 (fun HT_ HW_ => ?_)
             refine pure_ (i := 0) (N := some 83) (v := ?_) (a' := ?_) #[true, false, false, false, false, false, false, false, false, false, false, false, false, false, false] rfl rfl (any_of HT_.out (by kernel_rfl)) (fun _ _ _ h => h) (Or.inl ⟨by rfl, ?_⟩) ?_ ?_
             rotate_left
             ·intro w'
              go_simp
              with_reducible rfl
             rotate_left
             ·simp only [Act.put, List.setIfInBounds_toArray, List.set_cons_zero, List.set_cons_succ, i64_w, i32_w]
              rfl
             refine pure_ (i := 1) (N := some 84) (v := ?_) (a' := ?_) #[true, true, false, false, false, false, false, false, false, false, false, false, false, false, false] rfl rfl (any_of HT_.out (by kernel_rfl)) (fun _ _ _ h => h) (Or.inl ⟨by rfl, ?_⟩) ?_ ?_
             rotate_left
             ·intro w'
              go_simp
              with_reducible rfl
             rotate_left
             ·simp only [Act.put, List.setIfInBounds_toArray, List.set_cons_zero, List.set_cons_succ, i64_w, i32_w]
              rfl
             refine pure_ (i := 2) (N := some 85) (v := ?_) (a' := ?_) #[true, true, true, false, false, false, false, false, false, false, false, false, false, false, false] rfl rfl (any_of HT_.out (by kernel_rfl)) (fun _ _ _ h => h) (Or.inl ⟨by rfl, ?_⟩) ?_ ?_
             rotate_left
             ·intro w'
              go_simp
              with_reducible rfl
             rotate_left
             ·simp only [Act.put, List.setIfInBounds_toArray, List.set_cons_zero, List.set_cons_succ, i64_w, i32_w]
              rfl
             refine pure_ (i := 3) (N := some 86) (v := ?_) (a' := ?_) #[true, true, true, true, false, false, false, false, false, false, false, false, false, false, false] rfl rfl (any_of HT_.out (by kernel_rfl)) (fun _ _ _ h => h) (Or.inl ⟨by rfl, ?_⟩) ?_ ?_
             rotate_left
             ·intro w'
              go_simp
              with_reducible rfl
             rotate_left
             ·simp only [Act.put, List.setIfInBounds_toArray, List.set_cons_zero, List.set_cons_succ, i64_w, i32_w]
              rfl
             refine pure_ (i := 4) (N := some 87) (v := ?_) (a' := ?_) #[true, true, true, true, true, false, false, false, false, false, false, false, false, false, false] rfl rfl (any_of HT_.out (by kernel_rfl)) (fun _ _ _ h => h) (Or.inl ⟨by rfl, ?_⟩) ?_ ?_
             rotate_left
             ·intro w'
              go_simp
              with_reducible rfl
             rotate_left
             ·simp only [Act.put, List.setIfInBounds_toArray, List.set_cons_zero, List.set_cons_succ, i64_w, i32_w]
              rfl
             refine pure_ (i := 5) (N := some 88) (v := ?_) (a' := ?_) #[true, true, true, true, true, true, false, false, false, false, false, false, false, false, false] rfl rfl (any_of HT_.out (by kernel_rfl)) (fun _ _ _ h => h) (Or.inl ⟨by rfl, ?_⟩) ?_ ?_
             rotate_left
             ·intro w'
              go_simp
              with_reducible rfl
             rotate_left
             ·simp only [Act.put, List.setIfInBounds_toArray, List.set_cons_zero, List.set_cons_succ, i64_w, i32_w]
              rfl
             refine pure_ (i := 7) (N := some 90) (v := ?_) (a' := ?_) #[true, true, true, true, true, true, false, true, false, false, false, false, false, false, false] rfl rfl (any_of HT_.out (by kernel_rfl)) (fun _ _ _ h => h) (Or.inl ⟨by rfl, ?_⟩) ?_ ?_
             rotate_left
             ·intro w'
              go_simp
              with_reducible rfl
             rotate_left
             ·simp only [Act.put, List.setIfInBounds_toArray, List.set_cons_zero, List.set_cons_succ, i64_w, i32_w]
              rfl
             refine pure_ (i := 8) (N := some 91) (v := ?_) (a' := ?_) #[true, true, true, true, true, true, false, true, true, false, false, false, false, false, false] rfl rfl (any_of HT_.out (by kernel_rfl)) (fun _ _ _ h => h) (Or.inl ⟨by rfl, ?_⟩) ?_ ?_
             rotate_left
             ·intro w'
              go_simp
              with_reducible rfl
             rotate_left
             ·simp only [Act.put, List.setIfInBounds_toArray, List.set_cons_zero, List.set_cons_succ, i64_w, i32_w]
              rfl
             refine take_ (i := 6) (N := some 89) (v := ?_) (a' := ?_) #[true, true, true, true, true, true, true, true, true, false, false, false, false, false, false] rfl rfl (take_ofW HT_.out HW_.out (by kernel_rfl)) (fun _ _ _ h => h) (Or.inl ⟨by rfl, ?_⟩) hHeld ?_ ?_
             rotate_left
             ·rintro w' ⟨s0, s1, s2, s3, s4, s5, s6⟩
              go_simp
              with_reducible rfl
             rotate_left
             ·simp only [Act.put, List.setIfInBounds_toArray, List.set_cons_zero, List.set_cons_succ, i64_w, i32_w]
              rfl
             refine pure_ (i := 9) (N := some 92) (v := ?_) (a' := ?_) #[true, true, true, true, true, true, true, true, true, true, false, false, false, false, false] rfl rfl (any_of HT_.out (by kernel_rfl)) (fun _ _ _ h => h) (Or.inl ⟨by rfl, ?_⟩) ?_ ?_
             rotate_left
             ·intro w'
              go_simp
              with_reducible rfl
             rotate_left
             ·simp only [Act.put, List.setIfInBounds_toArray, List.set_cons_zero, List.set_cons_succ, i64_w, i32_w]
              rfl
             refine take_ (i := 10) (N := some 93) (v := ?_) (a' := ?_) #[true, true, true, true, true, true, true, true, true, true, true, false, false, false, false] rfl rfl (take_ofW HT_.out HW_.out (by kernel_rfl)) (fun _ _ _ h => h) (Or.inl ⟨by rfl, ?_⟩) hHeld ?_ ?_
             rotate_left
             ·rintro w' ⟨s0, s1, s2, s3, s4, s5, s6⟩
              go_simp
              with_reducible rfl
             rotate_left
             ·simp only [Act.put, List.setIfInBounds_toArray, List.set_cons_zero, List.set_cons_succ, i64_w, i32_w]
              rfl
             refine take_ (i := 11) (N := some 94) (v := ?_) (a' := ?_) #[true, true, true, true, true, true, true, true, true, true, true, true, false, false, false] rfl rfl (take_ofW HT_.out HW_.out (by kernel_rfl)) (fun _ _ _ h => h) (Or.inl ⟨by rfl, ?_⟩) hHeld ?_ ?_
             rotate_left
             ·rintro w' ⟨s0, s1, s2, s3, s4, s5, s6⟩
              go_simp
              with_reducible rfl
             rotate_left
             ·simp only [Act.put, List.setIfInBounds_toArray, List.set_cons_zero, List.set_cons_succ, i64_w, i32_w]
              rfl
             refine last_ (i := 12) (N := some 95) #[true, true, true, true, true, true, true, true, true, true, true, true, true, false, false] rfl rfl (one_of HT_.out (by kernel_rfl)) (by decide) (fun K hK => ?_)
             refine goes_ Tryd.func149 (by kernel_rfl) rfl #[.agg #[.int .u8 z0, .int .u8 z1, .int .i8 z2], .agg #[.int .u8 x0, .int .u8 x1, .int .i8 x2]] (by rfl) rfl rfl (by simp only [List.map_toArray, List.map_cons, List.map_nil]; rfl) ?_
             with_reducible refine (spec_l01Ahead.calls z0 z1 z2 x0 x1 x2 _ _ (ahead_eq z0 z1 z2 x0 x1 x2)).mono ?_
             rintro e w9 ⟨rfl, hb9⟩
             refine ⟨_, rfl, ?_⟩
             refine hK.out _ _ ?_
             clear hK K
             refine norm_ (a' := ?_) ?_ ?_
             rotate_left
             ·show Act.put _ (some 95) _ = _
              simp only [Act.put, List.setIfInBounds_toArray, List.set_cons_zero, List.set_cons_succ, i64_w, i32_w]
              rfl
             refine pure_ (i := 13) (N := some 96) (v := ?_) (a' := ?_) #[true, true, true, true, true, true, true, true, true, true, true, true, true, true, false] rfl rfl (any_of HT_.out (by kernel_rfl)) (fun _ _ _ h => h) (Or.inl ⟨by rfl, ?_⟩) ?_ ?_
             rotate_left
             ·intro w'
              go_simp
              with_reducible rfl
             rotate_left
             ·simp only [Act.put, List.setIfInBounds_toArray, List.set_cons_zero, List.set_cons_succ, i64_w, i32_w]
              rfl
             refine pure_ (i := 14) (N := some 97) (v := ?_) (a' := ?_) #[true, true, true, true, true, true, true, true, true, true, true, true, true, true, true] rfl rfl (any_of HT_.out (by kernel_rfl)) (fun _ _ _ h => h) (Or.inl ⟨by rfl, ?_⟩) ?_ ?_
             rotate_left
             ·intro w'
              go_simp
              with_reducible rfl
             rotate_left
             ·simp only [Act.put, List.setIfInBounds_toArray, List.set_cons_zero, List.set_cons_succ, i64_w, i32_w]
              rfl
             refine done_ (done_of HT_.out (by kernel_rfl)) ?_
             have PA4 : Aside0 (pairAt y1 P (m + 1) = aheadB z0 z1 x0 x1) := ⟨by rw [PA3.out]; unfold aheadB; simp⟩
             have HB9 := Aside0.mk (below_step (bw1 HBW.out) hb9)
             clear hb9 f28 f0 f1 f2 n0 n1 n2 hHeld
             cases hAh : aheadB z0 z1 x0 x1
             ·go_wp2_with fail
              go_ret
              exact ⟨by rw [PF.out (by rw [PA4.out, hAh])]; rfl, HB9.out⟩
             ·go_wp2_with fail
              go_roundw
              case rel => exact ⟨m + 1 + 1, by omega, by go_num, ⟨HB9.out⟩, ⟨by rw [List.range_succ, List.all_append, HA2.out, List.all_cons, PA4.out, hAh]; rfl⟩⟩
              case measure => simp [intOf]; omega
           ·go_quiet (first | (go_at_call 118; exact q_same (sletter_as _ _ hA)) | (go_at_call 118; exact q_same (sletter_as _ _ hB)) | (go_at_call 84; exact q_same (in_as _ _ _ _ hC)))
            have hD' : (x2 != 0) = true := by rw [bne, hD]; rfl
            have HE : Aside0 (decide (0 ≤ y1 + x2) = false) := ⟨by have := of_decide_eq_true hE; exact decide_eq_false (by omega)⟩
            go_wp2_with fail
            go_ret
            exact ⟨by rw [PF.out (by rw [PA.out, hA, hB, hC, hD', HWZ.out, HE.out]; first | rfl | simp)]; rfl, (by repeat (first | exact HB.out | apply bwA | apply pwN | apply bw1 | (refine Below.setCell ?_ (by have := HB.out.size; simp; omega) _)))⟩
          ·go_quiet (first | (go_at_call 118; exact q_same (sletter_as _ _ hA)) | (go_at_call 118; exact q_same (sletter_as _ _ hB)) | (go_at_call 84; exact q_same (in_as _ _ _ _ hC)))
           have hD' : (x2 != 0) = false := by rw [bne, hD]; rfl
           go_wp2_with fail
           go_ret
           exact ⟨by rw [PF.out (by rw [PA.out, hA, hB, hC, hD']; first | rfl | simp)]; rfl, (by repeat (first | exact HB.out | apply bwA | apply pwN | apply bw1 | (refine Below.setCell ?_ (by have := HB.out.size; simp; omega) _)))⟩
      ·have hltz : ¬ (n : Int) < (P.length : Int) := by omega
       obtain rfl : n = P.length := by omega
       go_wp2
       go_ret
       exact ⟨by rw [E0.out _ _ Z0.out Z1.out, show pairsB y1 P = true from HA2.out]; rfl, HB.out⟩
theorem cmp_eq (z0 z1 z2 x0 x1 x2 : Int) : ∃ r, impl_comparePairs.f 9 z0 z1 z2 x0 x1 x2 = some r ∧ (aheadB z0 z1 x0 x1 = true ∧ r = -1 ∨ aheadB z0 z1 x0 x1 = false ∧ (r = 0 ∨ r = 1)) := by
 have hc : ∀ a b : Int, cmp_Compare_uint8.f a b = some (if a < b then -1 else if b < a then 1 else 0) := fun a b => by
  unfold cmp_Compare_uint8.f cmp_isNaN_uint8.f
  simp only [bne_self_eq_false, Option.bind_some, Bool.false_eq_true, if_false, GT.gt]
  repeat' split
  all_goals rfl
 unfold impl_comparePairs.f
 rw [hc, hc, Option.bind_some, Option.bind_some]
 have ho : ∀ a b : Int, cmp_Or_int.f 9 [a, b] = some (if a = 0 then b else a) := fun a b => by
  unfold cmp_Or_int.f
  have e1 : wrap64 1 = 1 := by unfold wrap64; omega
  have e2 : wrap64 2 = 2 := by unfold wrap64; omega
  by_cases ha : a = 0
  ·by_cases hb : b = 0
   ·subst ha hb; simp [cmp_Or_int.l0, rd, e1, e2]
   ·simp [cmp_Or_int.l0, rd, ha, hb, e1]
  ·simp [cmp_Or_int.l0, rd, ha]
 rw [ho, Option.bind_some]
 refine ⟨_, rfl, ?_⟩
 unfold aheadB
 by_cases h1 : z0 < x0
 ·simp [h1]
 ·by_cases h2 : x0 < z0
  ·have : ¬ z0 = x0 := by omega
   simp [h1, h2, this]
  ·have : z0 = x0 := by omega
   subst this
   by_cases h3 : z1 < x1
   ·simp [h3]
   ·by_cases h4 : x1 < z1 <;> simp [h3, h4]
theorem iletter_calls (x : Int) (w : World) : Calls Tryd.prog 150 #[.int .u8 x] w fun e w' => e = .returned (.bool (letB x)) ∧ w = w' := by
 unfold letB
 by_cases h : 65 ≤ x
 ·have h1 : decide (65 ≤ x) = true := by simpa using h
  go_enter Tryd.func150, Tryd.ntmps150
  go_wp2
  go_ret
  exact ⟨by simp [h], rfl⟩
 ·have h1 : decide (65 ≤ x) = false := by simpa using h
  go_enter Tryd.func150, Tryd.ntmps150
  go_wp2
  go_ret
  exact ⟨by simp [h], rfl⟩
theorem iletter_as (x : Int) (w : World) {b : Bool} (h : letB x = b) : Calls Tryd.prog 150 #[.int .u8 x] w fun e w' => e = .returned (.bool b) ∧ w = w' := by
 subst h; exact iletter_calls x w
theorem within_as (a b c : Int) (w : World) {r : Bool} (h : inB a b c = r) : Calls Tryd.prog 85 #[.int .i64 a, .int .i64 b, .int .i64 c] w fun e w' => e = .returned (.bool r) ∧ w = w' := by
 subst h; exact within_calls a b c w
theorem range_face {w : World} {g : Nat} {t : TypeId} {l : List Int} {A : Option Addr} {n c : Nat} (h : w.heap[g]? = some (.cells (faceV l A n c) t (0, 0))) (m : Nat) (hm : m ≤ l.length) : w.rangeAt g 0 (nums .i8 (l.take m)) := by
 intro j v hv
 have hj : j < (nums .i8 (l.take m)).length := (List.getElem?_eq_some_iff.1 hv).1
 have hj' : j < m := by simp [nums] at hj; omega
 rw [Nat.zero_add, face_cell h j (by omega), ← hv]
 simp only [nums, List.getElem?_map, List.getElem?_take, hj', if_true, List.getElem?_eq_getElem (show j < l.length by omega), Option.map_some, rd, Int.toNat_natCast, List.getD_eq_getElem?_getD, Option.getD_some]
theorem ev_index {P : Program} {ops : Array Oper} {rest : List Oper} {o : Oper} {a : Act} {Q : Exit → Act → World → Prop} {W : World} (hgd : o.guard = none) (xt : TypeId) (x ix : Operand) (ho : o.op = .index xt x ix) (X : Array Value) (k : IntKind) (n len : Nat) (elem : TypeId) (v : Value)
  (hx : a.eval x = .agg X) (hi : a.eval ix = .int k n) (hu : P.underlying xt = some (.array len elem)) (hn : n < len) (he : P.plainKey elem = true) (hs : (P.info? elem).map (·.size) = some 1) (hX : X[n]? = some v)
  (h : wpList P ops Q rest (a.put o.dst v) W) : wpList P ops Q (o :: rest) a W := by
 have hrun : (Instr.index xt (.agg X) (.int k n)).run P W = .ok v W := by
  have hp := run_part_plain (P := P) W he hX
  cases hq : P.info? elem with
  | none => simp [hq] at hs
  | some i =>
   have h1 : i.size = 1 := by simpa [hq] using hs
   have hr : (0 : Int) ≤ (n : Int) ∧ (n : Int) < (len : Int) := ⟨by omega, by omega⟩
   simp [Instr.index, Sem.run_bind, run_underlying hu, asIntOf, sizeOf, typeInfo, hq, h1, hr, hn, hp]
 refine wpList_plain hgd fun K hK => ?_
 unfold Oper.wp execOp
 simp only [ho, hx, hi, Sem.run_bind, Sem.run_pure, Result.andThen_ok, hrun]
 exact hK _ _ h
theorem info_26 : (Tryd.prog.info? 23).map (·.size) = some 26 := by kernel_rfl
def faceTab.T10 : Bool × List (List Nat × List Nat) := (true, [([], []), ([0], [0]), ([1], [1]), ([2], [2]), ([3, 2], [3]), ([4], [4]), ([5, 4], [4, 5]), ([6, 4, 4], [4, 6]), ([7, 4], [4, 7]), ([4, 8], [4, 8]), ([9, 7], [9]), ([10], [10]), ([11, 10], [10, 11]), ([12, 10], [10, 12]), ([13, 10, 10], [10, 13]), ([14, 10], [10, 14]), ([10, 15], [10, 15]), ([16, 14], [16]), ([17], [17]), ([18, 17], [17, 18]), ([19, 17], [17, 19]), ([17, 20], [17, 20]), ([21, 17], [21]), ([22], [22]), ([23, 22], [22, 23]), ([22], [22]), ([25, 22], [22, 25]), ([24, 26, 22], [22, 24, 26]), ([27, 22], [22, 27]), ([22, 28], [22, 28]), ([29, 22], [29]), ([30], [30]), ([31, 30], [30, 31]), ([32, 30, 30], [30, 32]), ([33], [33]), ([34, 33], [33, 34]), ([33], [33]), ([36, 33], [33, 36]), ([35, 37, 33], [33, 35, 37]), ([38, 33], [33, 38]), ([33], [33]), ([39, 40, 33, 33], [33, 39, 40]), ([41, 33], [33, 41]), ([33, 42, 30], [30, 33, 42]), ([30, 43], [30, 43])])
def faceTab.B10 : List Nat := [0, 1, 3, 7, 15, 31, 63, 127, 255, 511, 1023, 2047, 4095, 8191, 16383, 32767, 65535, 131071, 262143, 524287, 1048575, 2097151, 4194303, 8388607, 16777215, 8388607, 41943039, 134217727, 268435455, 536870911, 1073741823, 2147483647, 4294967295, 8589934591, 17179869183, 34359738367, 17179869183, 85899345919, 274877906943, 549755813887, 17179869183, 2199023255551, 4398046511103, 8796093022207, 17592186044415]
theorem faceTab.tab10 : rtab .any (opsOf Tryd.f121 10) = faceTab.T10 := by kernel_rfl
theorem faceTab.bits10 : waitsOk faceTab.T10.2 faceTab.B10 = true := by kernel_rfl
set_option maxHeartbeats 4000000 in
set_option maxRecDepth 10000 in
theorem isFace_calls (l : List Int) (hl : l.length = 28) (hw : ∀ y ∈ l, -128 ≤ y ∧ y ≤ 127) (A : Option Addr) (c : Nat) (P : List Pr) (hP : ∀ p ∈ P, (0 ≤ p.f0 ∧ p.f0 ≤ 255) ∧ (0 ≤ p.f1 ∧ p.f1 ≤ 255) ∧ (-128 ≤ p.f2 ∧ p.f2 ≤ 127)) (w : World)
  (hr : Kd.C kPr w A P.length P) :
  Calls Tryd.prog 121 #[.agg (faceV l A P.length c)] w fun e w' => e = .returned (.bool (shapeB l P)) ∧ Below w.heap.size w w' := by
 have B1 := Aside0.mk (blk_new w (.cells (faceV l A P.length c) 32))
 have HB := Aside0.mk (bwA (Below.refl w.heap.size w) (.cells (faceV l A P.length c) 32))
 have HI : Aside0 ((Tryd.prog.info? 23).map (·.size) = some (nums .i8 (l.take 26)).length) := ⟨by rw [show (nums .i8 (l.take 26)).length = 26 by simp [nums]; omega]; exact info_26⟩
 have HL := Aside0.mk hl
 have HR := Aside0.mk hr
 have HW := Aside0.mk hw
 have HP := Aside0.mk hP
 have hbig : P.length ≤ 9223372036854775807 := hr.2.1
 clear hl hr hw hP
 go_enter Tryd.func121, Tryd.ntmps121
 go_wp2_with (first | ((with_reducible refine gate_dst (N := 8) rfl ?_); refine wpList_load_mid rfl 23 (.tmp 7) rfl w.heap.size 0 rfl (nums .i8 (l.take 26)) _ (range_face B1.out 26 (by have := HL.out; omega)) Tryd.underlying23 rfl HI.out ?_) | fail)
 obtain ⟨X, hX⟩ : ∃ X, X = (nums .i8 (l.take 26)).toArray := ⟨_, rfl⟩
 rw [← hX]
 have HX : Aside0 (∀ n : Nat, n < 26 → X[n]? = some (.int .i8 (rd l n))) := ⟨fun n hn => by
  have h1 := cellsK_get .i8 (l.take 26) n (by rw [List.length_take]; have := HL.out; omega)
  rw [hX]
  refine Eq.trans h1 ?_
  simp [rd, List.getD_eq_getElem?_getD, List.getElem?_take, hn]⟩
 clear hX
 go_loop [9] (fun i => ∃ n : Nat, n ≤ 26 ∧ i = .int .i64 n ∧ Aside0 ((l.take n).all (fun n => inB n 1 40) = true)) (fun i => 26 - (intOf i).toNat)
 case atStart => exact ⟨0, by omega, rfl, ⟨by simp⟩⟩
 case round =>
  obtain ⟨n, hn, rfl, HA⟩ := hrel
  by_cases hlt : n < 26
  ·have hltz : (n : Int) < 26 := by omega
   have hc := HX.out n hlt
   have hbd := HW.out _ (rd_mem' l n (by have := HL.out; omega))
   have HS := Aside0.mk (all_snoc' (fun n => inB n 1 40) l n (by have := HL.out; omega))
   have HF : Aside0 (inB (rd l n) 1 40 = false → (l.take 26).all (fun n => inB n 1 40) = false) := ⟨fun h => by
    have h0 : n < (l.take 26).length := by rw [List.length_take]; have := HL.out; omega
    refine all_take_false (fun n => inB n 1 40) (l.take 26) n h0 ?_
    rw [show rd (l.take 26) (n : Int) = rd l n by simp [rd, List.getD_eq_getElem?_getD, List.getElem?_take, hlt]]
    exact h⟩
   obtain ⟨hb1, hb2⟩ := hbd
   generalize rd l n = y at hc hb1 hb2 HS HF
   go_wp2_with (first | ((with_reducible refine gate_dst (N := 11) rfl ?_); refine ev_index rfl 23 (.tmp 8) (.tmp 9) rfl X .i64 n 26 22 _ rfl rfl Tryd.underlying23 hlt (by kernel_rfl) (by kernel_rfl) hc ?_) | fail)
   refine (within_calls _ _ _ _).mono ?_
   rintro e w' ⟨rfl, rfl⟩
   cases hy : inB y 1 40
   ·have HY := Aside0.mk hy
    clear hy
    go_wp2_with fail
    go_ret
    exact ⟨by unfold shapeB; rw [HF.out HY.out]; rfl, HB.out⟩
   ·have HY := Aside0.mk hy
    clear hy
    go_wp2_with fail
    go_round
    case rel => exact ⟨n + 1, by omega, by go_num, ⟨by rw [HS.out, HA.out, HY.out]; rfl⟩⟩
    case measure => simp [intOf]; omega
  ·have hltz : ¬ (n : Int) < 26 := by omega
   obtain rfl : n = 26 := by omega
   obtain ⟨y0, hy0⟩ : ∃ y, rd l (26 : Nat) = y := ⟨_, rfl⟩
   obtain ⟨y1, hy1⟩ : ∃ y, rd l (27 : Nat) = y := ⟨_, rfl⟩
   have ha := cellF B1.out 26 (by have := HL.out; omega) hy0
   have hb := cellF B1.out 27 (by have := HL.out; omega) hy1
   have w0 := HW.out _ (rd_mem' l 26 (by have := HL.out; omega))
   have w1 := HW.out _ (rd_mem' l 27 (by have := HL.out; omega))
   rw [hy0] at w0
   rw [hy1] at w1
   have Y0 := Aside0.mk hy0
   have Y1 := Aside0.mk hy1
   clear hy0 hy1
   obtain ⟨w01, w02⟩ := w0
   obtain ⟨w11, w12⟩ := w1
   have E0 : Aside0 (∀ x z, inB y0 1 40 = x → inB y1 0 10 = z → shapeB l P = (pairsB y1 P && (x && z))) := ⟨fun x z hx hz => by
    unfold shapeB
    rw [HA.out, Bool.true_and, show rd l 26 = y0 from Y0.out, show rd l 27 = y1 from Y1.out, hx, hz]⟩
   have hcs := face_pairs B1.out HL.out
   clear HA
   generalize hW1 : w.alloc (Obj.cells (faceV l A P.length c) 32) = W1 at ha hb hcs HB
   clear hW1 B1
   go_wp2_with fail
   go_loopw [20] (fun i wr => ∃ n : Nat, n ≤ P.length ∧ i = .int .i64 n ∧ Aside0 (Below w.heap.size w wr) ∧ Aside0 (Below W1.heap.size W1 wr) ∧ Aside0 ((List.range n).all (pairAt y1 P) = true)) (fun i _ => P.length - (intOf i).toNat)
   case atStart => exact ⟨0, by omega, rfl, HB, ⟨Below.refl _ _⟩, ⟨rfl⟩⟩
   case round =>
    clear HB
    obtain ⟨n, hn, rfl, HB, HB1, HA2⟩ := hrel
    have ha' := cellB ha HB1.out
    have hb' := cellB hb HB1.out
    have hcs' := cellB hcs HB1.out
    have HC := Aside0.mk hcs
    have HB0 := Aside0.mk hb
    have HA0 := Aside0.mk ha
    clear hcs hb ha
    have hlt2 : w.heap.size < wr.heap.size := World.block_lt_of_cell? wr _ hb'
    have hne : ¬ w.heap.size = wr.heap.size := by omega
    have hne2 : ¬ wr.heap.size = w.heap.size := by omega
    by_cases hlt : n < P.length
    ·have hltz : (n : Int) < (P.length : Int) := by omega
     obtain ⟨p, hp⟩ : ∃ p, p = rd_T137 P n := ⟨_, rfl⟩
     obtain ⟨ad, rfl, c0, c1, c2⟩ := at_T137 (Kd.C_below HR.out HB.out) n (by omega) (by omega)
     rw [Int.toNat_natCast] at c0 c1 c2
     rw [← hp] at c0 c1 c2
     have hpm : p ∈ P := by rw [hp]; unfold rd_T137; rw [Int.toNat_natCast, List.getD_eq_getElem?_getD, List.getElem?_eq_getElem hlt]; exact List.getElem_mem hlt
     obtain ⟨⟨b1, b2⟩, ⟨b3, b4⟩, b5, b6⟩ := HP.out p hpm
     obtain ⟨x0, x1, x2⟩ := p
     simp only at c0 c1 c2 b1 b2 b3 b4 b5 b6
     clear hpm ha'
     have PA := Aside0.mk (pairAt_eq (g := y1) hp)
     have PF : Aside0 (pairAt y1 P n = false → shapeB l P = false) := ⟨fun h => by rw [E0.out _ _ rfl rfl]; unfold pairsB; rw [all_range_false hlt h]; rfl⟩
     clear hp
     go_wp2_with fail
     cases hA : letB x0
     ·go_quiet (first | (go_at_call 150; exact q_same (iletter_as _ _ hA)))
      go_wp2_with fail
      go_ret
      exact ⟨by rw [PF.out (by rw [PA.out, hA]; first | rfl | simp)]; rfl, (by repeat (first | exact HB.out | apply bwA | apply pwN | apply bw1))⟩
     ·cases hB : letB x1
      ·go_quiet (first | (go_at_call 150; exact q_same (iletter_as _ _ hA)) | (go_at_call 150; exact q_same (iletter_as _ _ hB)))
       go_wp2_with fail
       go_ret
       exact ⟨by rw [PF.out (by rw [PA.out, hA, hB]; first | rfl | simp)]; rfl, (by repeat (first | exact HB.out | apply bwA | apply pwN | apply bw1))⟩
      ·cases hC : inB x2 (-10) 10
       ·go_quiet (first | (go_at_call 150; exact q_same (iletter_as _ _ hA)) | (go_at_call 150; exact q_same (iletter_as _ _ hB)) | (go_at_call 85; exact q_same (within_as _ _ _ _ hC)))
        go_wp2_with fail
        go_ret
        exact ⟨by rw [PF.out (by rw [PA.out, hA, hB, hC]; first | rfl | simp)]; rfl, (by repeat (first | exact HB.out | apply bwA | apply pwN | apply bw1))⟩
       ·cases hD : (x2 == 0)
        ·cases hE : decide (IntKind.i8.wrap (y1 + x2) < 0)
         ·have hD' : (x2 != 0) = true := by rw [bne, hD]; rfl
          have HE : Aside0 (decide (0 ≤ IntKind.i8.wrap (y1 + x2)) = true) := ⟨by have := of_decide_eq_false hE; exact decide_eq_true (by omega)⟩
          have PA2 : Aside0 (pairAt y1 P n = (n == 0 || (decide ((rd_T137 P ((n - 1 : Nat) : Int)).f0 < x0) || ((rd_T137 P ((n - 1 : Nat) : Int)).f0 == x0 && decide ((rd_T137 P ((n - 1 : Nat) : Int)).f1 < x1))))) := ⟨by rw [PA.out, hA, hB, hC, hD', HE.out]; rfl⟩
          clear hD'
          cases n with
          | zero =>
           go_quiet (first | (go_at_call 150; exact q_same (iletter_as _ _ hA)) | (go_at_call 150; exact q_same (iletter_as _ _ hB)) | (go_at_call 85; exact q_same (within_as _ _ _ _ hC)))
           clear hA hB hC hD hE
           go_wp2_with fail
           go_roundw
           case rel => exact ⟨1, by omega, by go_num, ⟨(by repeat (first | exact HB.out | apply bwA | apply pwN | apply bw1))⟩, ⟨(by repeat (first | exact HB1.out | apply bwA | apply pwN | apply bw1))⟩, ⟨by rw [show List.range 1 = [0] from rfl]; simp [PA2.out]⟩⟩
           case measure => simp [intOf]; omega
          | succ m =>
           have hsub : ((m + 1 : Nat) : Int) - 1 = (m : Int) := by omega
           have hwm : wrap64 (m : Int) = (m : Int) := by unfold wrap64; omega
           have hml : (m : Int) < (P.length : Int) := by omega
           have hpos : 0 < m + 1 := by omega
           obtain ⟨q, hq⟩ : ∃ q, q = rd_T137 P m := ⟨_, rfl⟩
           obtain ⟨ad', e', d0, d1, d2⟩ := at_T137 (Kd.C_below HR.out HB.out) m (by omega) (by omega)
           injection e' with e'
           subst e'
           rw [Int.toNat_natCast] at d0 d1 d2
           rw [← hq] at d0 d1 d2
           have PA3 := Aside0.mk PA2.out
           rw [show m + 1 - 1 = m by omega, ← hq] at PA3
           have Hq := Aside0.mk hq
           clear hq PA PA2
           obtain ⟨z0, z1, z2⟩ := q
           simp only at d0 d1 d2 PA3
           generalize hWd : (wr.alloc (Obj.cells #[Value.int .u8 x0, Value.int .u8 x1, Value.int .i8 x2] 137)) = W
           have BW : Below wr.heap.size wr W := by subst hWd; exact bwA (Below.refl _ _) _
           have hnew : W.heap[wr.heap.size]? = some (Obj.cells #[Value.int .u8 x0, Value.int .u8 x1, Value.int .i8 x2] 137 (0, 0)) := by subst hWd; exact blk_new wr _
           have f27 := cellB hb' BW
           have f28 := cellB hcs' BW
           have f0 := cellB d0 BW
           have f1 := cellB d1 BW
           have f2 := cellB d2 BW
           have n0 : W.cell? ⟨wr.heap.size, 0, none⟩ = some (.int .u8 x0) := (blk_cell hnew 0).trans rfl
           have n1 : W.cell? ⟨wr.heap.size, 1, none⟩ = some (.int .u8 x1) := (blk_cell hnew 1).trans rfl
           have n2 : W.cell? ⟨wr.heap.size, 2, none⟩ = some (.int .i8 x2) := (blk_cell hnew 2).trans rfl
           have HBW := Aside0.mk (below_step HB.out BW)
           have HB1W := Aside0.mk (below_step HB1.out BW)
           clear hWd BW hnew d0 d1 d2 hcs' hb' HB HB1 c0 c1 c2 hne hne2
           have hCw : inB (wrap64 x2) (-10) 10 = true := by rw [show wrap64 x2 = x2 by unfold wrap64; omega]; exact hC
           obtain ⟨r, hr, hr2⟩ := cmp_eq z0 z1 z2 x0 x1 x2
           have HR2 := Aside0.mk hr2
           replace hr := Aside0.mk hr
           clear hr2
           refine start_ (n := 45) (S := fun w' => w'.cell? ⟨w.heap.size, 27, none⟩ = some (.int .i8 y1) ∧ w'.cell? ⟨w.heap.size, 28, none⟩ = some (.slice (some ad) P.length c) ∧ w'.cell? (ad.add (m * 3)) = some (.int .u8 z0) ∧ w'.cell? ⟨(ad.add (m * 3)).block, (ad.add (m * 3)).off + 1, none⟩ = some (.int .u8 z1) ∧ w'.cell? ⟨(ad.add (m * 3)).block, (ad.add (m * 3)).off + 2, none⟩ = some (.int .i8 z2) ∧ w'.cell? ⟨wr.heap.size, 0, none⟩ = some (.int .u8 x0) ∧ w'.cell? ⟨wr.heap.size, 1, none⟩ = some (.int .u8 x1) ∧ w'.cell? ⟨wr.heap.size, 2, none⟩ = some (.int .i8 x2)) (ds := [41]) #[false, false, false, false, false, false, false, false, false, false, false, false, false, false, false, false, false, false, false, false, false, false, false, false, false, false, false, false, false, false, false, false, false, false, false, false, false, false, false, false, false, false, false, false, false] (by kernel_rfl) rfl rfl ⟨f27, f28, f0, f1, f2, n0, n1, n2⟩ (fun hHeld => ?_)
           refine with_tabW faceTab.tab10 faceTab.bits10 (fun HT_ HW_ => ?_)
           refine pure_ (i := 0) (N := some 25) (v := ?_) (a' := ?_) #[true, false, false, false, false, false, false, false, false, false, false, false, false, false, false, false, false, false, false, false, false, false, false, false, false, false, false, false, false, false, false, false, false, false, false, false, false, false, false, false, false, false, false, false, false] rfl rfl (any_of HT_.out (by kernel_rfl)) (fun _ _ _ h => h) (Or.inl ⟨by rfl, ?_⟩) ?_ ?_
           rotate_left
           ·intro w'
            go_simp
            with_reducible rfl
           rotate_left
           ·simp only [Act.put, List.setIfInBounds_toArray, List.set_cons_zero, List.set_cons_succ, i64_w, i32_w]
            rfl
           refine take_ (i := 1) (N := some 26) (v := ?_) (a' := ?_) #[true, true, false, false, false, false, false, false, false, false, false, false, false, false, false, false, false, false, false, false, false, false, false, false, false, false, false, false, false, false, false, false, false, false, false, false, false, false, false, false, false, false, false, false, false] rfl rfl (take_ofW HT_.out HW_.out (by kernel_rfl)) (fun _ _ _ h => h) (Or.inl ⟨by rfl, ?_⟩) hHeld ?_ ?_
           rotate_left
           ·rintro w' ⟨s0, s1, s2, s3, s4, s5, s6, s7⟩
            go_simp
            with_reducible rfl
           rotate_left
           ·simp only [Act.put, List.setIfInBounds_toArray, List.set_cons_zero, List.set_cons_succ, i64_w, i32_w]
            rfl
           refine one_ (i := 2) (N := some 27) #[true, true, true, false, false, false, false, false, false, false, false, false, false, false, false, false, false, false, false, false, false, false, false, false, false, false, false, false, false, false, false, false, false, false, false, false, false, false, false, false, false, false, false, false, false] rfl rfl (one_of HT_.out (by kernel_rfl)) (by decide) (fun K hK => ?_)
           refine goes_ Tryd.func150 (by kernel_rfl) rfl #[.int .u8 x0] (by rfl) rfl rfl (by simp only [List.map_toArray, List.map_cons, List.map_nil]; rfl) ?_
           with_reducible refine (iletter_as _ _ hA).mono ?_
           rintro e w9 ⟨rfl, rfl⟩
           refine ⟨_, rfl, ?_⟩
           refine hK.out _ _ ⟨hHeld.1, hHeld.2.1, hHeld.2.2.1, hHeld.2.2.2.1, hHeld.2.2.2.2.1, hHeld.2.2.2.2.2.1, hHeld.2.2.2.2.2.2.1, hHeld.2.2.2.2.2.2.2⟩ (fun hHeld => ?_)
           clear hK K
           refine norm_ (a' := ?_) ?_ ?_
           rotate_left
           ·show Act.put _ (some 27) _ = _
            simp only [Act.put, List.setIfInBounds_toArray, List.set_cons_zero, List.set_cons_succ, i64_w, i32_w]
            rfl
           refine pure_ (i := 3) (N := some 28) (v := ?_) (a' := ?_) #[true, true, true, true, false, false, false, false, false, false, false, false, false, false, false, false, false, false, false, false, false, false, false, false, false, false, false, false, false, false, false, false, false, false, false, false, false, false, false, false, false, false, false, false, false] rfl rfl (any_of HT_.out (by kernel_rfl)) (fun _ _ _ h => h) (Or.inl ⟨by rfl, ?_⟩) ?_ ?_
           rotate_left
           ·intro w'
            go_simp
            with_reducible rfl
           rotate_left
           ·simp only [Act.put, List.setIfInBounds_toArray, List.set_cons_zero, List.set_cons_succ, i64_w, i32_w]
            rfl
           refine pure_ (i := 4) (N := some 29) (v := ?_) (a' := ?_) #[true, true, true, true, true, false, false, false, false, false, false, false, false, false, false, false, false, false, false, false, false, false, false, false, false, false, false, false, false, false, false, false, false, false, false, false, false, false, false, false, false, false, false, false, false] rfl rfl (any_of HT_.out (by kernel_rfl)) (fun _ _ _ h => h) (Or.inl ⟨by rfl, ?_⟩) ?_ ?_
           rotate_left
           ·intro w'
            go_simp
            with_reducible rfl
           rotate_left
           ·simp only [Act.put, List.setIfInBounds_toArray, List.set_cons_zero, List.set_cons_succ, i64_w, i32_w]
            rfl
           refine pure_ (i := 5) (N := some 30) (v := ?_) (a' := ?_) #[true, true, true, true, true, true, false, false, false, false, false, false, false, false, false, false, false, false, false, false, false, false, false, false, false, false, false, false, false, false, false, false, false, false, false, false, false, false, false, false, false, false, false, false, false] rfl rfl (any_of HT_.out (by kernel_rfl)) (fun _ _ _ h => h) (Or.inl ⟨by rfl, ?_⟩) ?_ ?_
           rotate_left
           ·intro w'
            go_simp
            with_reducible rfl
           rotate_left
           ·simp only [Act.put, List.setIfInBounds_toArray, List.set_cons_zero, List.set_cons_succ, i64_w, i32_w]
            rfl
           refine take_ (i := 6) (N := some 31) (v := ?_) (a' := ?_) #[true, true, true, true, true, true, true, false, false, false, false, false, false, false, false, false, false, false, false, false, false, false, false, false, false, false, false, false, false, false, false, false, false, false, false, false, false, false, false, false, false, false, false, false, false] rfl rfl (take_ofW HT_.out HW_.out (by kernel_rfl)) (fun _ _ _ h => h) (Or.inl ⟨by rfl, ?_⟩) hHeld ?_ ?_
           rotate_left
           ·rintro w' ⟨s0, s1, s2, s3, s4, s5, s6, s7⟩
            go_simp
            with_reducible rfl
           rotate_left
           ·simp only [Act.put, List.setIfInBounds_toArray, List.set_cons_zero, List.set_cons_succ, i64_w, i32_w]
            rfl
           refine one_ (i := 7) (N := some 32) #[true, true, true, true, true, true, true, true, false, false, false, false, false, false, false, false, false, false, false, false, false, false, false, false, false, false, false, false, false, false, false, false, false, false, false, false, false, false, false, false, false, false, false, false, false] rfl rfl (one_of HT_.out (by kernel_rfl)) (by decide) (fun K hK => ?_)
           refine goes_ Tryd.func150 (by kernel_rfl) rfl #[.int .u8 x1] (by rfl) rfl rfl (by simp only [List.map_toArray, List.map_cons, List.map_nil]; rfl) ?_
           with_reducible refine (iletter_as _ _ hB).mono ?_
           rintro e w9 ⟨rfl, rfl⟩
           refine ⟨_, rfl, ?_⟩
           refine hK.out _ _ ⟨hHeld.1, hHeld.2.1, hHeld.2.2.1, hHeld.2.2.2.1, hHeld.2.2.2.2.1, hHeld.2.2.2.2.2.1, hHeld.2.2.2.2.2.2.1, hHeld.2.2.2.2.2.2.2⟩ (fun hHeld => ?_)
           clear hK K
           refine norm_ (a' := ?_) ?_ ?_
           rotate_left
           ·show Act.put _ (some 32) _ = _
            simp only [Act.put, List.setIfInBounds_toArray, List.set_cons_zero, List.set_cons_succ, i64_w, i32_w]
            rfl
           refine pure_ (i := 8) (N := some 33) (v := ?_) (a' := ?_) #[true, true, true, true, true, true, true, true, true, false, false, false, false, false, false, false, false, false, false, false, false, false, false, false, false, false, false, false, false, false, false, false, false, false, false, false, false, false, false, false, false, false, false, false, false] rfl rfl (any_of HT_.out (by kernel_rfl)) (fun _ _ _ h => h) (Or.inl ⟨by rfl, ?_⟩) ?_ ?_
           rotate_left
           ·intro w'
            go_simp
            with_reducible rfl
           rotate_left
           ·simp only [Act.put, List.setIfInBounds_toArray, List.set_cons_zero, List.set_cons_succ, i64_w, i32_w]
            rfl
           refine pure_ (i := 9) (N := some 34) (v := ?_) (a' := ?_) #[true, true, true, true, true, true, true, true, true, true, false, false, false, false, false, false, false, false, false, false, false, false, false, false, false, false, false, false, false, false, false, false, false, false, false, false, false, false, false, false, false, false, false, false, false] rfl rfl (any_of HT_.out (by kernel_rfl)) (fun _ _ _ h => h) (Or.inl ⟨by rfl, ?_⟩) ?_ ?_
           rotate_left
           ·intro w'
            go_simp
            with_reducible rfl
           rotate_left
           ·simp only [Act.put, List.setIfInBounds_toArray, List.set_cons_zero, List.set_cons_succ, i64_w, i32_w]
            rfl
           refine pure_ (i := 10) (N := some 35) (v := ?_) (a' := ?_) #[true, true, true, true, true, true, true, true, true, true, true, false, false, false, false, false, false, false, false, false, false, false, false, false, false, false, false, false, false, false, false, false, false, false, false, false, false, false, false, false, false, false, false, false, false] rfl rfl (any_of HT_.out (by kernel_rfl)) (fun _ _ _ h => h) (Or.inl ⟨by rfl, ?_⟩) ?_ ?_
           rotate_left
           ·intro w'
            go_simp
            with_reducible rfl
           rotate_left
           ·simp only [Act.put, List.setIfInBounds_toArray, List.set_cons_zero, List.set_cons_succ, i64_w, i32_w]
            rfl
           refine pure_ (i := 11) (N := some 36) (v := ?_) (a' := ?_) #[true, true, true, true, true, true, true, true, true, true, true, true, false, false, false, false, false, false, false, false, false, false, false, false, false, false, false, false, false, false, false, false, false, false, false, false, false, false, false, false, false, false, false, false, false] rfl rfl (any_of HT_.out (by kernel_rfl)) (fun _ _ _ h => h) (Or.inl ⟨by rfl, ?_⟩) ?_ ?_
           rotate_left
           ·intro w'
            go_simp
            with_reducible rfl
           rotate_left
           ·simp only [Act.put, List.setIfInBounds_toArray, List.set_cons_zero, List.set_cons_succ, i64_w, i32_w]
            rfl
           refine take_ (i := 12) (N := some 37) (v := ?_) (a' := ?_) #[true, true, true, true, true, true, true, true, true, true, true, true, true, false, false, false, false, false, false, false, false, false, false, false, false, false, false, false, false, false, false, false, false, false, false, false, false, false, false, false, false, false, false, false, false] rfl rfl (take_ofW HT_.out HW_.out (by kernel_rfl)) (fun _ _ _ h => h) (Or.inl ⟨by rfl, ?_⟩) hHeld ?_ ?_
           rotate_left
           ·rintro w' ⟨s0, s1, s2, s3, s4, s5, s6, s7⟩
            go_simp
            with_reducible rfl
           rotate_left
           ·simp only [Act.put, List.setIfInBounds_toArray, List.set_cons_zero, List.set_cons_succ, i64_w, i32_w]
            rfl
           refine pure_ (i := 13) (N := some 38) (v := ?_) (a' := ?_) #[true, true, true, true, true, true, true, true, true, true, true, true, true, true, false, false, false, false, false, false, false, false, false, false, false, false, false, false, false, false, false, false, false, false, false, false, false, false, false, false, false, false, false, false, false] rfl rfl (any_of HT_.out (by kernel_rfl)) (fun _ _ _ h => h) (Or.inl ⟨by rfl, ?_⟩) ?_ ?_
           rotate_left
           ·intro w'
            go_simp
            with_reducible rfl
           rotate_left
           ·simp only [Act.put, List.setIfInBounds_toArray, List.set_cons_zero, List.set_cons_succ, i64_w, i32_w]
            rfl
           refine one_ (i := 14) (N := some 39) #[true, true, true, true, true, true, true, true, true, true, true, true, true, true, true, false, false, false, false, false, false, false, false, false, false, false, false, false, false, false, false, false, false, false, false, false, false, false, false, false, false, false, false, false, false] rfl rfl (one_of HT_.out (by kernel_rfl)) (by decide) (fun K hK => ?_)
           refine goes_ Tryd.func85 (by kernel_rfl) rfl #[.int .i64 (wrap64 x2), .int .i64 (-10), .int .i64 10] (by rfl) rfl rfl (by simp only [List.map_toArray, List.map_cons, List.map_nil]; rfl) ?_
           with_reducible refine (within_as _ _ _ _ hCw).mono ?_
           rintro e w9 ⟨rfl, rfl⟩
           refine ⟨_, rfl, ?_⟩
           refine hK.out _ _ ⟨hHeld.1, hHeld.2.1, hHeld.2.2.1, hHeld.2.2.2.1, hHeld.2.2.2.2.1, hHeld.2.2.2.2.2.1, hHeld.2.2.2.2.2.2.1, hHeld.2.2.2.2.2.2.2⟩ (fun hHeld => ?_)
           clear hK K
           refine norm_ (a' := ?_) ?_ ?_
           rotate_left
           ·show Act.put _ (some 39) _ = _
            simp only [Act.put, List.setIfInBounds_toArray, List.set_cons_zero, List.set_cons_succ, i64_w, i32_w]
            rfl
           refine pure_ (i := 15) (N := some 40) (v := ?_) (a' := ?_) #[true, true, true, true, true, true, true, true, true, true, true, true, true, true, true, true, false, false, false, false, false, false, false, false, false, false, false, false, false, false, false, false, false, false, false, false, false, false, false, false, false, false, false, false, false] rfl rfl (any_of HT_.out (by kernel_rfl)) (fun _ _ _ h => h) (Or.inl ⟨by rfl, ?_⟩) ?_ ?_
           rotate_left
           ·intro w'
            go_simp
            with_reducible rfl
           rotate_left
           ·simp only [Act.put, List.setIfInBounds_toArray, List.set_cons_zero, List.set_cons_succ, i64_w, i32_w]
            rfl
           refine pure_ (i := 16) (N := some 41) (v := ?_) (a' := ?_) #[true, true, true, true, true, true, true, true, true, true, true, true, true, true, true, true, true, false, false, false, false, false, false, false, false, false, false, false, false, false, false, false, false, false, false, false, false, false, false, false, false, false, false, false, false] rfl rfl (any_of HT_.out (by kernel_rfl)) (fun _ _ _ h => h) (Or.inl ⟨by rfl, ?_⟩) ?_ ?_
           rotate_left
           ·intro w'
            go_simp
            with_reducible rfl
           rotate_left
           ·simp only [Act.put, List.setIfInBounds_toArray, List.set_cons_zero, List.set_cons_succ, i64_w, i32_w]
            rfl
           refine pure_ (i := 17) (N := some 42) (v := ?_) (a' := ?_) #[true, true, true, true, true, true, true, true, true, true, true, true, true, true, true, true, true, true, false, false, false, false, false, false, false, false, false, false, false, false, false, false, false, false, false, false, false, false, false, false, false, false, false, false, false] rfl rfl (any_of HT_.out (by kernel_rfl)) (fun _ _ _ h => h) (Or.inl ⟨by rfl, ?_⟩) ?_ ?_
           rotate_left
           ·intro w'
            go_simp
            with_reducible rfl
           rotate_left
           ·simp only [Act.put, List.setIfInBounds_toArray, List.set_cons_zero, List.set_cons_succ, i64_w, i32_w]
            rfl
           refine pure_ (i := 18) (N := some 43) (v := ?_) (a' := ?_) #[true, true, true, true, true, true, true, true, true, true, true, true, true, true, true, true, true, true, true, false, false, false, false, false, false, false, false, false, false, false, false, false, false, false, false, false, false, false, false, false, false, false, false, false, false] rfl rfl (any_of HT_.out (by kernel_rfl)) (fun _ _ _ h => h) (Or.inl ⟨by rfl, ?_⟩) ?_ ?_
           rotate_left
           ·intro w'
            go_simp
            with_reducible rfl
           rotate_left
           ·simp only [Act.put, List.setIfInBounds_toArray, List.set_cons_zero, List.set_cons_succ, i64_w, i32_w]
            rfl
           refine take_ (i := 19) (N := some 44) (v := ?_) (a' := ?_) #[true, true, true, true, true, true, true, true, true, true, true, true, true, true, true, true, true, true, true, true, false, false, false, false, false, false, false, false, false, false, false, false, false, false, false, false, false, false, false, false, false, false, false, false, false] rfl rfl (take_ofW HT_.out HW_.out (by kernel_rfl)) (fun _ _ _ h => h) (Or.inl ⟨by rfl, ?_⟩) hHeld ?_ ?_
           rotate_left
           ·rintro w' ⟨s0, s1, s2, s3, s4, s5, s6, s7⟩
            go_simp
            with_reducible rfl
           rotate_left
           ·simp only [Act.put, List.setIfInBounds_toArray, List.set_cons_zero, List.set_cons_succ, i64_w, i32_w]
            rfl
           refine pure_ (i := 20) (N := some 45) (v := ?_) (a' := ?_) #[true, true, true, true, true, true, true, true, true, true, true, true, true, true, true, true, true, true, true, true, true, false, false, false, false, false, false, false, false, false, false, false, false, false, false, false, false, false, false, false, false, false, false, false, false] rfl rfl (any_of HT_.out (by kernel_rfl)) (fun _ _ _ h => h) (Or.inl ⟨by rfl, ?_⟩) ?_ ?_
           rotate_left
           ·intro w'
            go_simp
            with_reducible rfl
           rotate_left
           ·simp only [Act.put, List.setIfInBounds_toArray, List.set_cons_zero, List.set_cons_succ, i64_w, i32_w]
            rfl
           refine pure_ (i := 21) (N := some 46) (v := ?_) (a' := ?_) #[true, true, true, true, true, true, true, true, true, true, true, true, true, true, true, true, true, true, true, true, true, true, false, false, false, false, false, false, false, false, false, false, false, false, false, false, false, false, false, false, false, false, false, false, false] rfl rfl (any_of HT_.out (by kernel_rfl)) (fun _ _ _ h => h) (Or.inl ⟨by rfl, ?_⟩) ?_ ?_
           rotate_left
           ·intro w'
            go_simp
            with_reducible rfl
           rotate_left
           ·simp only [Act.put, List.setIfInBounds_toArray, List.set_cons_zero, List.set_cons_succ, i64_w, i32_w]
            rfl
           refine pure_ (i := 22) (N := some 47) (v := ?_) (a' := ?_) #[true, true, true, true, true, true, true, true, true, true, true, true, true, true, true, true, true, true, true, true, true, true, true, false, false, false, false, false, false, false, false, false, false, false, false, false, false, false, false, false, false, false, false, false, false] rfl rfl (any_of HT_.out (by kernel_rfl)) (fun _ _ _ h => h) (Or.inl ⟨by rfl, ?_⟩) ?_ ?_
           rotate_left
           ·intro w'
            go_simp
            with_reducible rfl
           rotate_left
           ·simp only [Act.put, List.setIfInBounds_toArray, List.set_cons_zero, List.set_cons_succ, i64_w, i32_w]
            rfl
           refine pure_ (i := 23) (N := some 48) (v := ?_) (a' := ?_) #[true, true, true, true, true, true, true, true, true, true, true, true, true, true, true, true, true, true, true, true, true, true, true, true, false, false, false, false, false, false, false, false, false, false, false, false, false, false, false, false, false, false, false, false, false] rfl rfl (any_of HT_.out (by kernel_rfl)) (fun _ _ _ h => h) (Or.inl ⟨by rfl, ?_⟩) ?_ ?_
           rotate_left
           ·intro w'
            go_simp
            with_reducible rfl
           rotate_left
           ·simp only [Act.put, List.setIfInBounds_toArray, List.set_cons_zero, List.set_cons_succ, i64_w, i32_w]
            rfl
           refine pure_ (i := 25) (N := some 50) (v := ?_) (a' := ?_) #[true, true, true, true, true, true, true, true, true, true, true, true, true, true, true, true, true, true, true, true, true, true, true, true, false, true, false, false, false, false, false, false, false, false, false, false, false, false, false, false, false, false, false, false, false] rfl rfl (any_of HT_.out (by kernel_rfl)) (fun _ _ _ h => h) (Or.inl ⟨by rfl, ?_⟩) ?_ ?_
           rotate_left
           ·intro w'
            go_simp
            with_reducible rfl
           rotate_left
           ·simp only [Act.put, List.setIfInBounds_toArray, List.set_cons_zero, List.set_cons_succ, i64_w, i32_w]
            rfl
           refine take_ (i := 24) (N := some 49) (v := ?_) (a' := ?_) #[true, true, true, true, true, true, true, true, true, true, true, true, true, true, true, true, true, true, true, true, true, true, true, true, true, true, false, false, false, false, false, false, false, false, false, false, false, false, false, false, false, false, false, false, false] rfl rfl (take_ofW HT_.out HW_.out (by kernel_rfl)) (fun _ _ _ h => h) (Or.inl ⟨by rfl, ?_⟩) hHeld ?_ ?_
           rotate_left
           ·rintro w' ⟨s0, s1, s2, s3, s4, s5, s6, s7⟩
            go_simp
            with_reducible rfl
           rotate_left
           ·simp only [Act.put, List.setIfInBounds_toArray, List.set_cons_zero, List.set_cons_succ, i64_w, i32_w]
            rfl
           refine take_ (i := 26) (N := some 51) (v := ?_) (a' := ?_) #[true, true, true, true, true, true, true, true, true, true, true, true, true, true, true, true, true, true, true, true, true, true, true, true, true, true, true, false, false, false, false, false, false, false, false, false, false, false, false, false, false, false, false, false, false] rfl rfl (take_ofW HT_.out HW_.out (by kernel_rfl)) (fun _ _ _ h => h) (Or.inl ⟨by rfl, ?_⟩) hHeld ?_ ?_
           rotate_left
           ·rintro w' ⟨s0, s1, s2, s3, s4, s5, s6, s7⟩
            go_simp
            with_reducible rfl
           rotate_left
           ·simp only [Act.put, List.setIfInBounds_toArray, List.set_cons_zero, List.set_cons_succ, i64_w, i32_w]
            rfl
           refine pure_ (i := 27) (N := some 52) (v := ?_) (a' := ?_) #[true, true, true, true, true, true, true, true, true, true, true, true, true, true, true, true, true, true, true, true, true, true, true, true, true, true, true, true, false, false, false, false, false, false, false, false, false, false, false, false, false, false, false, false, false] rfl rfl (any_of HT_.out (by kernel_rfl)) (fun _ _ _ h => h) (Or.inl ⟨by rfl, ?_⟩) ?_ ?_
           rotate_left
           ·intro w'
            go_simp
            with_reducible rfl
           rotate_left
           ·simp only [Act.put, List.setIfInBounds_toArray, List.set_cons_zero, List.set_cons_succ, i64_w, i32_w]
            rfl
           refine pure_ (i := 28) (N := some 53) (v := ?_) (a' := ?_) #[true, true, true, true, true, true, true, true, true, true, true, true, true, true, true, true, true, true, true, true, true, true, true, true, true, true, true, true, true, false, false, false, false, false, false, false, false, false, false, false, false, false, false, false, false] rfl rfl (any_of HT_.out (by kernel_rfl)) (fun _ _ _ h => h) (Or.inl ⟨by rfl, ?_⟩) ?_ ?_
           rotate_left
           ·intro w'
            go_simp
            with_reducible rfl
           rotate_left
           ·simp only [Act.put, List.setIfInBounds_toArray, List.set_cons_zero, List.set_cons_succ, i64_w, i32_w]
            rfl
           refine pure_ (i := 29) (N := some 54) (v := ?_) (a' := ?_) #[true, true, true, true, true, true, true, true, true, true, true, true, true, true, true, true, true, true, true, true, true, true, true, true, true, true, true, true, true, true, false, false, false, false, false, false, false, false, false, false, false, false, false, false, false] rfl rfl (any_of HT_.out (by kernel_rfl)) (fun _ _ _ h => h) (Or.inl ⟨by rfl, ?_⟩) ?_ ?_
           rotate_left
           ·intro w'
            go_simp
            with_reducible rfl
           rotate_left
           ·simp only [Act.put, List.setIfInBounds_toArray, List.set_cons_zero, List.set_cons_succ, i64_w, i32_w]
            rfl
           refine pure_ (i := 30) (N := some 55) (v := ?_) (a' := ?_) #[true, true, true, true, true, true, true, true, true, true, true, true, true, true, true, true, true, true, true, true, true, true, true, true, true, true, true, true, true, true, true, false, false, false, false, false, false, false, false, false, false, false, false, false, false] rfl rfl (any_of HT_.out (by kernel_rfl)) (fun _ _ _ h => h) (Or.inl ⟨by rfl, ?_⟩) ?_ ?_
           rotate_left
           ·intro w'
            go_simp
            with_reducible rfl
           rotate_left
           ·simp only [Act.put, List.setIfInBounds_toArray, List.set_cons_zero, List.set_cons_succ, i64_w, i32_w]
            rfl
           refine pure_ (i := 31) (N := some 56) (v := ?_) (a' := ?_) #[true, true, true, true, true, true, true, true, true, true, true, true, true, true, true, true, true, true, true, true, true, true, true, true, true, true, true, true, true, true, true, true, false, false, false, false, false, false, false, false, false, false, false, false, false] rfl rfl (any_of HT_.out (by kernel_rfl)) (fun _ _ _ h => h) (Or.inl ⟨by rfl, ?_⟩) ?_ ?_
           rotate_left
           ·intro w'
            go_simp
            with_reducible rfl
           rotate_left
           ·simp only [Act.put, List.setIfInBounds_toArray, List.set_cons_zero, List.set_cons_succ, i64_w, i32_w]
            rfl
           refine pure_ (i := 32) (N := some 57) (v := ?_) (a' := ?_) #[true, true, true, true, true, true, true, true, true, true, true, true, true, true, true, true, true, true, true, true, true, true, true, true, true, true, true, true, true, true, true, true, true, false, false, false, false, false, false, false, false, false, false, false, false] rfl rfl (any_of HT_.out (by kernel_rfl)) (fun _ _ _ h => h) (Or.inl ⟨by rfl, ?_⟩) ?_ ?_
           rotate_left
           ·intro w'
            go_simp
            with_reducible rfl
           rotate_left
           ·simp only [Act.put, List.setIfInBounds_toArray, List.set_cons_zero, List.set_cons_succ, i64_w, i32_w]
            rfl
           refine pure_ (i := 33) (N := some 58) (v := ?_) (a' := ?_) #[true, true, true, true, true, true, true, true, true, true, true, true, true, true, true, true, true, true, true, true, true, true, true, true, true, true, true, true, true, true, true, true, true, true, false, false, false, false, false, false, false, false, false, false, false] rfl rfl (any_of HT_.out (by kernel_rfl)) (fun _ _ _ h => h) (Or.inl ⟨by rfl, ?_⟩) ?_ ?_
           rotate_left
           ·intro w'
            go_simp
            with_reducible rfl
           rotate_left
           ·simp only [Act.put, List.setIfInBounds_toArray, List.set_cons_zero, List.set_cons_succ, i64_w, i32_w]
            rfl
           refine pure_ (i := 34) (N := some 59) (v := ?_) (a' := ?_) #[true, true, true, true, true, true, true, true, true, true, true, true, true, true, true, true, true, true, true, true, true, true, true, true, true, true, true, true, true, true, true, true, true, true, true, false, false, false, false, false, false, false, false, false, false] rfl rfl (any_of HT_.out (by kernel_rfl)) (fun _ _ _ h => h) (Or.inl ⟨by rfl, ?_⟩) ?_ ?_
           rotate_left
           ·intro w'
            go_simp
            with_reducible rfl
           rotate_left
           ·simp only [Act.put, List.setIfInBounds_toArray, List.set_cons_zero, List.set_cons_succ, i64_w, i32_w]
            rfl
           refine pure_ (i := 36) (N := some 61) (v := ?_) (a' := ?_) #[true, true, true, true, true, true, true, true, true, true, true, true, true, true, true, true, true, true, true, true, true, true, true, true, true, true, true, true, true, true, true, true, true, true, true, false, true, false, false, false, false, false, false, false, false] rfl rfl (any_of HT_.out (by kernel_rfl)) (fun _ _ _ h => h) (Or.inl ⟨by rfl, ?_⟩) ?_ ?_
           rotate_left
           ·intro w'
            go_simp
            with_reducible rfl
           rotate_left
           ·simp only [Act.put, List.setIfInBounds_toArray, List.set_cons_zero, List.set_cons_succ, i64_w, i32_w]
            rfl
           refine pure_ (i := 37) (N := some 62) (v := ?_) (a' := ?_) #[true, true, true, true, true, true, true, true, true, true, true, true, true, true, true, true, true, true, true, true, true, true, true, true, true, true, true, true, true, true, true, true, true, true, true, false, true, true, false, false, false, false, false, false, false] rfl rfl (any_of HT_.out (by kernel_rfl)) (fun _ _ _ h => h) (Or.inl ⟨by rfl, ?_⟩) ?_ ?_
           rotate_left
           ·intro w'
            go_simp
            with_reducible rfl
           rotate_left
           ·simp only [Act.put, List.setIfInBounds_toArray, List.set_cons_zero, List.set_cons_succ, i64_w, i32_w]
            rfl
           refine take_ (i := 35) (N := some 60) (v := ?_) (a' := ?_) #[true, true, true, true, true, true, true, true, true, true, true, true, true, true, true, true, true, true, true, true, true, true, true, true, true, true, true, true, true, true, true, true, true, true, true, true, true, true, false, false, false, false, false, false, false] rfl rfl (take_ofW HT_.out HW_.out (by kernel_rfl)) (fun _ _ _ h => h) (Or.inl ⟨by rfl, ?_⟩) hHeld ?_ ?_
           rotate_left
           ·rintro w' ⟨s0, s1, s2, s3, s4, s5, s6, s7⟩
            go_simp
            with_reducible rfl
           rotate_left
           ·simp only [Act.put, List.setIfInBounds_toArray, List.set_cons_zero, List.set_cons_succ, i64_w, i32_w]
            rfl
           refine pure_ (i := 38) (N := some 63) (v := ?_) (a' := ?_) #[true, true, true, true, true, true, true, true, true, true, true, true, true, true, true, true, true, true, true, true, true, true, true, true, true, true, true, true, true, true, true, true, true, true, true, true, true, true, true, false, false, false, false, false, false] rfl rfl (any_of HT_.out (by kernel_rfl)) (fun _ _ _ h => h) (Or.inl ⟨by rfl, ?_⟩) ?_ ?_
           rotate_left
           ·intro w'
            go_simp
            with_reducible rfl
           rotate_left
           ·simp only [Act.put, List.setIfInBounds_toArray, List.set_cons_zero, List.set_cons_succ, i64_w, i32_w]
            rfl
           refine take_ (i := 39) (N := some 64) (v := ?_) (a' := ?_) #[true, true, true, true, true, true, true, true, true, true, true, true, true, true, true, true, true, true, true, true, true, true, true, true, true, true, true, true, true, true, true, true, true, true, true, true, true, true, true, true, false, false, false, false, false] rfl rfl (take_ofW HT_.out HW_.out (by kernel_rfl)) (fun _ _ _ h => h) (Or.inl ⟨by rfl, ?_⟩) hHeld ?_ ?_
           rotate_left
           ·rintro w' ⟨s0, s1, s2, s3, s4, s5, s6, s7⟩
            go_simp
            with_reducible rfl
           rotate_left
           ·simp only [Act.put, List.setIfInBounds_toArray, List.set_cons_zero, List.set_cons_succ, i64_w, i32_w]
            rfl
           refine take_ (i := 40) (N := some 65) (v := ?_) (a' := ?_) #[true, true, true, true, true, true, true, true, true, true, true, true, true, true, true, true, true, true, true, true, true, true, true, true, true, true, true, true, true, true, true, true, true, true, true, true, true, true, true, true, true, false, false, false, false] rfl rfl (take_ofW HT_.out HW_.out (by kernel_rfl)) (fun _ _ _ h => h) (Or.inl ⟨by rfl, ?_⟩) hHeld ?_ ?_
           rotate_left
           ·rintro w' ⟨s0, s1, s2, s3, s4, s5, s6, s7⟩
            go_simp
            with_reducible rfl
           rotate_left
           ·simp only [Act.put, List.setIfInBounds_toArray, List.set_cons_zero, List.set_cons_succ, i64_w, i32_w]
            rfl
           refine last_ (i := 41) (N := some 66) #[true, true, true, true, true, true, true, true, true, true, true, true, true, true, true, true, true, true, true, true, true, true, true, true, true, true, true, true, true, true, true, true, true, true, true, true, true, true, true, true, true, true, false, false, false] rfl rfl (one_of HT_.out (by kernel_rfl)) (by decide) (fun K hK => ?_)
           refine goes_ Tryd.func151 (by kernel_rfl) rfl #[.agg #[.int .u8 z0, .int .u8 z1, .int .i8 z2], .agg #[.int .u8 x0, .int .u8 x1, .int .i8 x2]] (by rfl) rfl rfl (by simp only [List.map_toArray, List.map_cons, List.map_nil]; rfl) ?_
           with_reducible refine (impl_comparePairs.calls 9 z0 z1 z2 x0 x1 x2 r _ hr.out).mono ?_
           rintro e w9 ⟨rfl, hb9⟩
           refine ⟨_, rfl, ?_⟩
           refine hK.out _ _ ?_
           clear hK K
           refine norm_ (a' := ?_) ?_ ?_
           rotate_left
           ·show Act.put _ (some 66) _ = _
            simp only [Act.put, List.setIfInBounds_toArray, List.set_cons_zero, List.set_cons_succ, i64_w, i32_w]
            rfl
           refine pure_ (i := 42) (N := some 67) (v := ?_) (a' := ?_) #[true, true, true, true, true, true, true, true, true, true, true, true, true, true, true, true, true, true, true, true, true, true, true, true, true, true, true, true, true, true, true, true, true, true, true, true, true, true, true, true, true, true, true, false, false] rfl rfl (any_of HT_.out (by kernel_rfl)) (fun _ _ _ h => h) (Or.inl ⟨by rfl, ?_⟩) ?_ ?_
           rotate_left
           ·intro w'
            go_simp
            with_reducible rfl
           rotate_left
           ·simp only [Act.put, List.setIfInBounds_toArray, List.set_cons_zero, List.set_cons_succ, i64_w, i32_w]
            rfl
           refine pure_ (i := 43) (N := some 68) (v := ?_) (a' := ?_) #[true, true, true, true, true, true, true, true, true, true, true, true, true, true, true, true, true, true, true, true, true, true, true, true, true, true, true, true, true, true, true, true, true, true, true, true, true, true, true, true, true, true, true, true, false] rfl rfl (any_of HT_.out (by kernel_rfl)) (fun _ _ _ h => h) (Or.inl ⟨by rfl, ?_⟩) ?_ ?_
           rotate_left
           ·intro w'
            go_simp
            with_reducible rfl
           rotate_left
           ·simp only [Act.put, List.setIfInBounds_toArray, List.set_cons_zero, List.set_cons_succ, i64_w, i32_w]
            rfl
           refine pure_ (i := 44) (N := some 69) (v := ?_) (a' := ?_) #[true, true, true, true, true, true, true, true, true, true, true, true, true, true, true, true, true, true, true, true, true, true, true, true, true, true, true, true, true, true, true, true, true, true, true, true, true, true, true, true, true, true, true, true, true] rfl rfl (any_of HT_.out (by kernel_rfl)) (fun _ _ _ h => h) (Or.inl ⟨by rfl, ?_⟩) ?_ ?_
           rotate_left
           ·intro w'
            go_simp
            with_reducible rfl
           rotate_left
           ·simp only [Act.put, List.setIfInBounds_toArray, List.set_cons_zero, List.set_cons_succ, i64_w, i32_w]
            rfl
           refine done_ (done_of HT_.out (by kernel_rfl)) ?_
           have PA4 : Aside0 (pairAt y1 P (m + 1) = aheadB z0 z1 x0 x1) := ⟨by rw [PA3.out]; unfold aheadB; simp⟩
           have HB9 := Aside0.mk (below_step (bw1 HBW.out) hb9)
           have HB19 := Aside0.mk (below_step (bw1 HB1W.out) hb9)
           clear hb9 f27 f28 f0 f1 f2 n0 n1 n2 hHeld hA hB hC hD hE hCw
           rcases HR2.out with ⟨hAh, rfl⟩ | ⟨hAh, rfl | rfl⟩
           rotate_left
           ·clear HR2 hr
            have HAh := Aside0.mk hAh
            clear hAh
            go_wp2_with fail
            go_ret
            exact ⟨by rw [PF.out (by rw [PA4.out, HAh.out])]; rfl, HB9.out⟩
           ·clear HR2 hr
            have HAh := Aside0.mk hAh
            clear hAh
            go_wp2_with fail
            go_ret
            exact ⟨by rw [PF.out (by rw [PA4.out, HAh.out])]; rfl, HB9.out⟩
           ·clear HR2 hr
            have HAh := Aside0.mk hAh
            clear hAh
            go_wp2_with fail
            go_roundw
            case rel => exact ⟨m + 1 + 1, by omega, by go_num, ⟨HB9.out⟩, ⟨HB19.out⟩, ⟨by rw [List.range_succ, List.all_append, HA2.out, List.all_cons, PA4.out, HAh.out]; rfl⟩⟩
            case measure => simp [intOf]; omega
         ·go_quiet (first | (go_at_call 150; exact q_same (iletter_as _ _ hA)) | (go_at_call 150; exact q_same (iletter_as _ _ hB)) | (go_at_call 85; exact q_same (within_as _ _ _ _ hC)))
          have hD' : (x2 != 0) = true := by rw [bne, hD]; rfl
          have HE : Aside0 (decide (0 ≤ IntKind.i8.wrap (y1 + x2)) = false) := ⟨by have := of_decide_eq_true hE; exact decide_eq_false (by omega)⟩
          go_wp2_with fail
          go_ret
          exact ⟨by rw [PF.out (by rw [PA.out, hA, hB, hC, hD', HE.out]; first | rfl | simp)]; rfl, (by repeat (first | exact HB.out | apply bwA | apply pwN | apply bw1))⟩
        ·go_quiet (first | (go_at_call 150; exact q_same (iletter_as _ _ hA)) | (go_at_call 150; exact q_same (iletter_as _ _ hB)) | (go_at_call 85; exact q_same (within_as _ _ _ _ hC)))
         have hD' : (x2 != 0) = false := by rw [bne, hD]; rfl
         go_wp2_with fail
         go_ret
         exact ⟨by rw [PF.out (by rw [PA.out, hA, hB, hC, hD']; first | rfl | simp)]; rfl, (by repeat (first | exact HB.out | apply bwA | apply pwN | apply bw1))⟩
    ·have hltz : ¬ (n : Int) < (P.length : Int) := by omega
     obtain rfl : n = P.length := by omega
     go_wp2_with fail
     refine (within_calls _ _ _ _).mono ?_
     rintro e w' ⟨rfl, rfl⟩
     cases hz0 : inB y0 1 40
     ·have Z0 := Aside0.mk hz0
      clear hz0
      go_wp2_with fail
      go_ret
      exact ⟨by rw [E0.out _ _ Z0.out rfl]; simp, HB.out⟩
     ·have Z0 := Aside0.mk hz0
      clear hz0
      go_wp2_with fail
      refine (within_calls _ _ _ _).mono ?_
      rintro e w' ⟨rfl, rfl⟩
      obtain ⟨b, hb⟩ : ∃ b, inB y1 0 10 = b := ⟨_, rfl⟩
      have Z1 := Aside0.mk hb
      rw [hb]
      clear hb
      go_wp2_with fail
      go_ret
      exact ⟨by rw [E0.out _ _ Z0.out Z1.out, show pairsB y1 P = true from HA2.out]; simp, HB.out⟩
set_option maxRecDepth 100000
theorem rngL {L : List Int} {P : List Pr} (h : rngB L P = true) : ∀ y ∈ L, -128 ≤ y ∧ y ≤ 127 := by
 unfold rngB at h
 simp only [Bool.and_eq_true] at h
 exact fun y hy => inB_iff.1 (List.all_eq_true.1 h.1 y hy)
theorem rngP {L : List Int} {P : List Pr} (h : rngB L P = true) : ∀ p ∈ P, (0 ≤ p.f0 ∧ p.f0 ≤ 255) ∧ (0 ≤ p.f1 ∧ p.f1 ≤ 255) ∧ (-128 ≤ p.f2 ∧ p.f2 ≤ 127) := by
 unfold rngB at h
 simp only [Bool.and_eq_true] at h
 intro p hp
 have := List.all_eq_true.1 h.2 p hp
 simp only [Bool.and_eq_true] at this
 exact ⟨inB_iff.1 this.1.1, inB_iff.1 this.1.2, inB_iff.1 this.2⟩
def impl_Face_isFace.f (F0 F1 F2 F3 F4 F5 F6 F7 F8 F9 F10 F11 F12 F13 F14 F15 F16 F17 F18 F19 F20 F21 F22 F23 F24 F25 F26 F27 : Int) (l0_28 : List Pr) : Option Bool := isFaceF [F0, F1, F2, F3, F4, F5, F6, F7, F8, F9, F10, F11, F12, F13, F14, F15, F16, F17, F18, F19, F20, F21, F22, F23, F24, F25, F26, F27] l0_28
theorem impl_Face_isFace.calls (F0 F1 F2 F3 F4 F5 F6 F7 F8 F9 F10 F11 F12 F13 F14 F15 F16 F17 F18 F19 F20 F21 F22 F23 F24 F25 F26 F27 : Int) (A0_28 : Option Addr) (c0_28 : Nat) (l0_28 : List Pr) (r : Bool) (w : World) (hr0_28 : Kd.C kPr w A0_28 l0_28.length l0_28) (hc0_28 : l0_28.length ≤ c0_28) (h : impl_Face_isFace.f F0 F1 F2 F3 F4 F5 F6 F7 F8 F9 F10 F11 F12 F13 F14 F15 F16 F17 F18 F19 F20 F21 F22 F23 F24 F25 F26 F27 l0_28 = some r) :
  Calls Tryd.prog 121 #[.agg #[.int .i8 F0, .int .i8 F1, .int .i8 F2, .int .i8 F3, .int .i8 F4, .int .i8 F5, .int .i8 F6, .int .i8 F7, .int .i8 F8, .int .i8 F9, .int .i8 F10, .int .i8 F11, .int .i8 F12, .int .i8 F13, .int .i8 F14, .int .i8 F15, .int .i8 F16, .int .i8 F17, .int .i8 F18, .int .i8 F19, .int .i8 F20, .int .i8 F21, .int .i8 F22, .int .i8 F23, .int .i8 F24, .int .i8 F25, .int .i8 F26, .int .i8 F27, .slice A0_28 l0_28.length c0_28]] w fun e w' => e = .returned (.bool r) ∧ Below w.heap.size w w' := by
 unfold impl_Face_isFace.f isFaceF at h
 split at h
 ·rename_i hb
  obtain rfl := Option.some.inj h
  exact isFace_calls [F0, F1, F2, F3, F4, F5, F6, F7, F8, F9, F10, F11, F12, F13, F14, F15, F16, F17, F18, F19, F20, F21, F22, F23, F24, F25, F26, F27] rfl (rngL hb) A0_28 c0_28 l0_28 (rngP hb) w hr0_28
 ·cases h
def spec_l01Shape.f (G0 G1 G2 G3 G4 G5 G6 G7 G8 G9 G10 G11 G12 G13 G14 G15 G16 G17 G18 G19 G20 G21 G22 G23 G24 G25 G26 G27 : Int) (G28 : List Pr) : Option Bool := isFaceF [G0, G1, G2, G3, G4, G5, G6, G7, G8, G9, G10, G11, G12, G13, G14, G15, G16, G17, G18, G19, G20, G21, G22, G23, G24, G25, G26, G27] G28
theorem spec_l01Shape.calls (g : Nat) (G0 G1 G2 G3 G4 G5 G6 G7 G8 G9 G10 G11 G12 G13 G14 G15 G16 G17 G18 G19 G20 G21 G22 G23 G24 G25 G26 G27 : Int) (G28 : List Pr) (r : Bool) (w0 w : World) (hI : IsS32 w0 w g G0 G1 G2 G3 G4 G5 G6 G7 G8 G9 G10 G11 G12 G13 G14 G15 G16 G17 G18 G19 G20 G21 G22 G23 G24 G25 G26 G27 G28) (hB : Below w0.heap.size w0 w) (h : spec_l01Shape.f G0 G1 G2 G3 G4 G5 G6 G7 G8 G9 G10 G11 G12 G13 G14 G15 G16 G17 G18 G19 G20 G21 G22 G23 G24 G25 G26 G27 G28 = some r) :
  Calls Tryd.prog 117 #[.pointer (some ⟨g, 0, none⟩)] w fun e w' => e = .returned (.bool r) ∧ IsS32 w0 w' g G0 G1 G2 G3 G4 G5 G6 G7 G8 G9 G10 G11 G12 G13 G14 G15 G16 G17 G18 G19 G20 G21 G22 G23 G24 G25 G26 G27 G28 ∧ Below w0.heap.size w0 w' ∧ KeepBut w w' g none := by
 unfold spec_l01Shape.f isFaceF at h
 split at h
 ·rename_i hb
  obtain rfl := Option.some.inj h
  have hI' := hI
  obtain ⟨A, c, hg, hge, hr⟩ := hI
  exact (l01Shape_calls g [G0, G1, G2, G3, G4, G5, G6, G7, G8, G9, G10, G11, G12, G13, G14, G15, G16, G17, G18, G19, G20, G21, G22, G23, G24, G25, G26, G27] rfl (rngL hb) A c G28 (rngP hb) w hg (Kd.C_below hr hB)).mono fun e w' ⟨he, hb'⟩ => ⟨he, IsS32.below hI' hb', below_step hB hb', KeepBut.of_below hb' g none⟩
 ·cases h
end Go.Proofs.YticjkfacdmmopaaDoor.Ext
namespace Go.Proofs.YticjkfacdmmopaaDoor.Q
open Go.Proofs.YticjkfacdmmopaaDoor.Ext
open Go.RowKit Go.Proofs.YticjkfacdmmopaaDoorW.PrintWords Go.Proofs.YticjkfacdmmopaaDoorW.PrintLast Go.Proofs.YticjkfacdmmopaaDoorW.PrintMore
attribute [local go_sem] max2_int min2_int max_two min_two max_three min_three max_four min_four
set_option linter.unusedVariables false
set_option linter.unusedSimpArgs false
def spec_l01Face.f (G0 G1 G2 G3 G4 G5 G6 G7 G8 G9 G10 G11 G12 G13 G14 G15 G16 G17 G18 G19 G20 G21 G22 G23 G24 G25 G26 G27 : Int) (G28 : List (S137)) : Option (Bool) := if (G28.length : Int) ≤ 12 then ((spec_l01Shape.f G0 G1 G2 G3 G4 G5 G6 G7 G8 G9 G10 G11 G12 G13 G14 G15 G16 G17 G18 G19 G20 G21 G22 G23 G24 G25 G26 G27 G28).bind fun t105 => (some t105)) else (some false)
set_option maxHeartbeats 8000000 in
set_option maxRecDepth 100000 in
theorem spec_l01Face.calls (g : Nat) (G0 G1 G2 G3 G4 G5 G6 G7 G8 G9 G10 G11 G12 G13 G14 G15 G16 G17 G18 G19 G20 G21 G22 G23 G24 G25 G26 G27 : Int) (G28 : List (S137)) (r : Bool) (w0 w : World) (hI : IsS32 w0 w g G0 G1 G2 G3 G4 G5 G6 G7 G8 G9 G10 G11 G12 G13 G14 G15 G16 G17 G18 G19 G20 G21 G22 G23 G24 G25 G26 G27 G28) (hB : Below w0.heap.size w0 w) (h : spec_l01Face.f G0 G1 G2 G3 G4 G5 G6 G7 G8 G9 G10 G11 G12 G13 G14 G15 G16 G17 G18 G19 G20 G21 G22 G23 G24 G25 G26 G27 G28 = some r) :
  Calls Tryd.prog 62 #[.pointer (some ⟨g, 0, none⟩)] w fun e w' => e = .returned (.bool r) ∧ IsS32 w0 w' g G0 G1 G2 G3 G4 G5 G6 G7 G8 G9 G10 G11 G12 G13 G14 G15 G16 G17 G18 G19 G20 G21 G22 G23 G24 G25 G26 G27 G28 ∧ Below w0.heap.size w0 w' ∧ KeepBut w w' g none := by
 have HI0 := Aside0.mk hI
 have HK := Aside0.mk (KeepBut.refl w g none)
 have HL := Aside0.mk hB.size
 clear hI
 have HW0 := Aside0.mk hB.size
 have HB := Aside0.mk hB
 clear hB
 have H : (if (G28.length : Int) ≤ 12 then ((spec_l01Shape.f G0 G1 G2 G3 G4 G5 G6 G7 G8 G9 G10 G11 G12 G13 G14 G15 G16 G17 G18 G19 G20 G21 G22 G23 G24 G25 G26 G27 G28).bind fun t105 => (some t105)) else (some false)) = some r := h
 clear h
 by_cases c2 : (G28.length : Int) ≤ 12
 ·rw [if_pos c2] at H
  have c2b0 : decide ((G28.length : Int) ≤ 12) = true := decide_eq_true c2
  have c2b1 : decide (G28.length ≤ 12) = true := decide_eq_true (by omega)
  clear c2
  replace H := Option.bind_eq_some_iff.mp H
  obtain ⟨t105, A30, H⟩ := H
  replace H : (some t105) = some r := H
  have A3 := Aside0.mk A30
  clear A30
  obtain rfl := Option.some.inj H
  obtain ⟨ASz4_28, cSz4_28, HGz4, hgz4, HSz4_28⟩ := HI0.out
  have hcz4_26 := cellS32_26 HGz4
  have hcz4_27 := cellS32_27 HGz4
  have hcz4_28 := cellS32_28 HGz4
  clear HGz4 hgz4
  go_enter Tryd.func62, Tryd.ntmps62
  go_wp2_with (first | (go_at_call 117; (with_reducible refine (spec_l01Shape.calls g G0 G1 G2 G3 G4 G5 G6 G7 G8 G9 G10 G11 G12 G13 G14 G15 G16 G17 G18 G19 G20 G21 G22 G23 G24 G25 G26 G27 G28 t105 w0 _ ?side1 ?side2 A3.out).mono ?_); (case side1 => repeat (first | (with_reducible first | exact HI0.out | apply IsS32.alloc | apply IsS32.drewN | apply IsS32.drew) | exact HI0.out)); (case side2 => repeat (first | (with_reducible first | exact HB.out | apply bwA | apply pwN | apply bw1 | refine below_set ?_ (IsS32.ge HI0.out)) | exact HB.out)); rintro e w5 ⟨rfl, hi, hb, hk⟩; have n0_ := Aside0.mk (KeepBut.trans (by repeat (first | (with_reducible first | exact HK.out | apply KeepBut.set_ | apply keep_drewN | apply keep_drew | apply keep_alloc) | exact HK.out)) hk (.inl rfl)); have n1_ := Aside0.mk (hb); have n2_ := Aside0.mk (hi); clear HK; clear HB; clear HI0; have HK := n0_; have HB := n1_; have HI0 := n2_; clear n0_ n1_ n2_; (try clear hb); (try clear hb2); (try clear hk); (try clear hi)))
  go_ret
  exact ⟨by first | rfl | (simp [errW_none, errW_some] <;> rfl) | (simp [*, errW_none, errW_some] <;> rfl), by repeat (first | (with_reducible first | exact HI0.out | apply IsS32.alloc | apply IsS32.drewN | apply IsS32.drew) | exact HI0.out), by repeat (first | (with_reducible first | exact HB.out | apply bwA | apply pwN | apply bw1 | refine below_set ?_ (IsS32.ge HI0.out)) | exact HB.out), by repeat (first | (with_reducible first | exact HK.out | apply KeepBut.set_ | apply keep_drewN | apply keep_drew | apply keep_alloc) | exact HK.out)⟩
 ·rw [if_neg c2] at H
  have c2b0 : decide ((G28.length : Int) ≤ 12) = false := decide_eq_false c2
  have c2b1 : decide (G28.length ≤ 12) = false := decide_eq_false (by omega)
  clear c2
  obtain rfl := Option.some.inj H
  obtain ⟨ASz6_28, cSz6_28, HGz6, hgz6, HSz6_28⟩ := HI0.out
  have hcz6_26 := cellS32_26 HGz6
  have hcz6_27 := cellS32_27 HGz6
  have hcz6_28 := cellS32_28 HGz6
  clear HGz6 hgz6
  go_enter Tryd.func62, Tryd.ntmps62
  go_wp2
  go_ret
  exact ⟨by first | rfl | (simp [errW_none, errW_some] <;> rfl) | (simp [*, errW_none, errW_some] <;> rfl), by repeat (first | (with_reducible first | exact HI0.out | apply IsS32.alloc | apply IsS32.drewN | apply IsS32.drew) | exact HI0.out), by repeat (first | (with_reducible first | exact HB.out | apply bwA | apply pwN | apply bw1 | refine below_set ?_ (IsS32.ge HI0.out)) | exact HB.out), by repeat (first | (with_reducible first | exact HK.out | apply KeepBut.set_ | apply keep_drewN | apply keep_drew | apply keep_alloc) | exact HK.out)⟩
def spec_l01Text.l0 : Nat → ByteArray → Int → Option (Bool)
 | 0, _, _ => none
 | k + 1, x0, x3 => if x3 < (x0.size : Int) then (if 0 ≤ x3 then (if (bt x0 x3) = 32 then (if x3 = 0 then (some false) else (if x3 = (wrap64 ((x0.size : Int) - 1)) then (some false) else (if 0 ≤ (wrap64 (x3 - 1)) then (if (wrap64 (x3 - 1)) < (x0.size : Int) then (if (bt x0 (wrap64 (x3 - 1))) = 32 then (some false) else (spec_l01Text.l0 k x0 (wrap64 (x3 + 1)))) else (none)) else (none)))) else ((spec_l01Letter.f (bt x0 x3)).bind fun t106 => (if t106 = true then (spec_l01Text.l0 k x0 (wrap64 (x3 + 1))) else (some false)))) else (none)) else (some (decide ((x0.size : Int) ≤ 60)))
def spec_l01Text.f (k : Nat) (a0 : ByteArray) : Option (Bool) := spec_l01Text.l0 k a0 0
set_option maxHeartbeats 8000000 in
set_option maxRecDepth 100000 in
theorem spec_l01Text.calls (k : Nat) (a0 : ByteArray) (r : Bool) (w : World) (h : spec_l01Text.f k a0 = some r) :
  Calls Tryd.prog 63 #[.string a0] w fun e w' => e = .returned (.bool r) ∧ Drawn0 w w' := by
 have H : (spec_l01Text.l0 k a0 0) = some r := h
 clear h
 have H' := Aside0.mk H
 clear H
 go_enter Tryd.func63, Tryd.ntmps63
 go_wp2
 go_loopg [3] k (fun kq v3 w' => ∃ (x3_1 : Int), v3 = .int .i64 x3_1 ∧ Aside0 (spec_l01Text.l0 kq a0 x3_1 = some r) ∧ Aside0 (kq ≤ k) ∧ Drawn0 w w')
 case atStart => exact ⟨(0), (by first | rfl | (simp; done) | (simp [*]; done)), H', ⟨Nat.le_refl _⟩, by repeat (first | exact Drawn0.refl _ | apply Drawn0.step)⟩
 case round =>
  clear H'
  obtain ⟨x3_1, rfl, HA, HK1, ⟨m1, rfl⟩⟩ := hrel
  cases gk with
  | zero => exact absurd HA.out (by simp [spec_l01Text.l0])
  | succ k1 =>
   have H := HA.out
   clear HA
   simp only [spec_l01Text.l0] at H
   by_cases c2 : x3_1 < (a0.size : Int)
   ·rw [if_pos c2] at H
    have c2b0 : decide (x3_1 < (a0.size : Int)) = true := decide_eq_true c2
    clear c2
    by_cases c3 : 0 ≤ x3_1
    ·rw [if_pos c3] at H
     have c3b0 : decide (0 ≤ x3_1) = true := decide_eq_true c3
     clear c3
     by_cases c5 : (bt a0 x3_1) = 32
     ·rw [if_pos c5] at H
      have c5b0 : ((bt a0 x3_1) == 32) = true := beq_iff_eq.mpr c5
      have c5b1 : ((bt a0 x3_1) != 32) = false := bne_eq_false_iff_eq.mpr c5
      clear c5
      by_cases c6 : x3_1 = 0
      ·rw [if_pos c6] at H
       have c6b0 : (x3_1 == 0) = true := beq_iff_eq.mpr c6
       have c6b1 : (x3_1 != 0) = false := bne_eq_false_iff_eq.mpr c6
       clear c6
       obtain rfl := Option.some.inj H
       have p4 : 0 ≤ (x3_1 : Int) := of_decide_eq_true (by first | (with_reducible assumption) | assumption)
       have q4 : x3_1 < (a0.size : Int) := of_decide_eq_true (by first | (with_reducible assumption) | assumption)
       have hx4 := bt_at a0 x3_1
       replace p4 := eq_true p4
       replace q4 := eq_true q4
       go_wp2
       go_ret
       exact ⟨by first | rfl | (simp; done) | (simp [*]; done), by repeat (first | exact Drawn0.refl _ | apply Drawn0.step)⟩
      ·rw [if_neg c6] at H
       have c6b0 : (x3_1 == 0) = false := beq_eq_false_iff_ne.mpr c6
       have c6b1 : (x3_1 != 0) = true := bne_iff_ne.mpr c6
       by_cases c7 : x3_1 = (wrap64 ((a0.size : Int) - 1))
       ·rw [if_pos c7] at H
        have c7b0 : (x3_1 == (wrap64 ((a0.size : Int) - 1))) = true := beq_iff_eq.mpr c7
        have c7b1 : (x3_1 != (wrap64 ((a0.size : Int) - 1))) = false := bne_eq_false_iff_eq.mpr c7
        clear c7
        obtain rfl := Option.some.inj H
        have p4 : 0 ≤ (x3_1 : Int) := of_decide_eq_true (by first | (with_reducible assumption) | assumption)
        have q4 : x3_1 < (a0.size : Int) := of_decide_eq_true (by first | (with_reducible assumption) | assumption)
        have hx4 := bt_at a0 x3_1
        replace p4 := eq_true p4
        replace q4 := eq_true q4
        go_wp2
        go_ret
        exact ⟨by first | rfl | (simp; done) | (simp [*]; done), by repeat (first | exact Drawn0.refl _ | apply Drawn0.step)⟩
       ·rw [if_neg c7] at H
        have c7b0 : (x3_1 == (wrap64 ((a0.size : Int) - 1))) = false := beq_eq_false_iff_ne.mpr c7
        have c7b1 : (x3_1 != (wrap64 ((a0.size : Int) - 1))) = true := bne_iff_ne.mpr c7
        obtain ⟨ji8, hji8⟩ : ∃ j_ : Int, (wrap64 (x3_1 - 1)) = j_ := ⟨_, rfl⟩
        replace H : (if 0 ≤ (ji8) then (if (ji8) < (a0.size : Int) then (if (bt a0 (ji8)) = 32 then (some false) else (spec_l01Text.l0 k1 a0 (wrap64 (x3_1 + 1)))) else (none)) else (none)) = some r := by first | (rw [hji8] at H; exact H) | (simp only [hji8] at H ⊢; exact H)
        have hji8w : (IntKind.i64.wrap (x3_1 - 1)) = ji8 := (i64_w _).trans hji8
        by_cases c9 : 0 ≤ (ji8)
        ·rw [if_pos c9] at H
         have c9b0 : decide (0 ≤ (ji8)) = true := decide_eq_true c9
         clear c9
         by_cases c10 : (ji8) < (a0.size : Int)
         ·rw [if_pos c10] at H
          have c10b0 : decide ((ji8) < (a0.size : Int)) = true := decide_eq_true c10
          clear c10
          by_cases c12 : (bt a0 (ji8)) = 32
          ·rw [if_pos c12] at H
           have c12b0 : ((bt a0 (ji8)) == 32) = true := beq_iff_eq.mpr c12
           have c12b1 : ((bt a0 (ji8)) != 32) = false := bne_eq_false_iff_eq.mpr c12
           clear c12
           obtain rfl := Option.some.inj H
           have p4 : 0 ≤ (x3_1 : Int) := of_decide_eq_true (by first | (with_reducible assumption) | assumption)
           have q4 : x3_1 < (a0.size : Int) := of_decide_eq_true (by first | (with_reducible assumption) | assumption)
           have hx4 := bt_at a0 x3_1
           replace p4 := eq_true p4
           replace q4 := eq_true q4
           have p11 : 0 ≤ ((ji8) : Int) := of_decide_eq_true (by first | (with_reducible assumption) | assumption)
           have q11 : (ji8) < (a0.size : Int) := of_decide_eq_true (by first | (with_reducible assumption) | assumption)
           have hx11 := bt_at a0 (ji8)
           replace p11 := eq_true p11
           replace q11 := eq_true q11
           go_wp2
           go_ret
           exact ⟨by first | rfl | (simp; done) | (simp only [← hji8] <;> (first | rfl | simp)) | (simp [*]; done), by repeat (first | exact Drawn0.refl _ | apply Drawn0.step)⟩
          ·rw [if_neg c12] at H
           have c12b0 : ((bt a0 (ji8)) == 32) = false := beq_eq_false_iff_ne.mpr c12
           have c12b1 : ((bt a0 (ji8)) != 32) = true := bne_iff_ne.mpr c12
           have H' := Aside0.mk H
           clear H
           have p4 : 0 ≤ (x3_1 : Int) := of_decide_eq_true (by first | (with_reducible assumption) | assumption)
           have q4 : x3_1 < (a0.size : Int) := of_decide_eq_true (by first | (with_reducible assumption) | assumption)
           have hx4 := bt_at a0 x3_1
           replace p4 := eq_true p4
           replace q4 := eq_true q4
           have p11 : 0 ≤ ((ji8) : Int) := of_decide_eq_true (by first | (with_reducible assumption) | assumption)
           have q11 : (ji8) < (a0.size : Int) := of_decide_eq_true (by first | (with_reducible assumption) | assumption)
           have hx11 := bt_at a0 (ji8)
           replace p11 := eq_true p11
           replace q11 := eq_true q11
           go_wp2
           go_roundg k1
           case measure => have := HK1.out; omega
           case rel => exact ⟨(wrap64 (x3_1 + 1)), (by first | rfl | (simp; done) | (simp [*]; done)), H', ⟨by have := HK1.out; omega⟩, by repeat (first | exact Drawn0.refl _ | apply Drawn0.step)⟩
         ·rw [if_neg c10] at H
          exact absurd H (by simp)
        ·rw [if_neg c9] at H
         exact absurd H (by simp)
     ·rw [if_neg c5] at H
      have c5b0 : ((bt a0 x3_1) == 32) = false := beq_eq_false_iff_ne.mpr c5
      have c5b1 : ((bt a0 x3_1) != 32) = true := bne_iff_ne.mpr c5
      replace H := Option.bind_eq_some_iff.mp H
      obtain ⟨t106, A140, H⟩ := H
      (try dsimp only at H)
      have A14 := Aside0.mk A140
      clear A140
      by_cases c15 : t106 = true
      ·subst c15
       rw [if_pos rfl] at H
       have H1 := H
       clear H
       have H := H1
       clear H1
       have H' := Aside0.mk H
       clear H
       have p4 : 0 ≤ (x3_1 : Int) := of_decide_eq_true (by first | (with_reducible assumption) | assumption)
       have q4 : x3_1 < (a0.size : Int) := of_decide_eq_true (by first | (with_reducible assumption) | assumption)
       have hx4 := bt_at a0 x3_1
       replace p4 := eq_true p4
       replace q4 := eq_true q4
       have p13 : 0 ≤ (x3_1 : Int) := of_decide_eq_true (by first | (with_reducible assumption) | assumption)
       have q13 : x3_1 < (a0.size : Int) := of_decide_eq_true (by first | (with_reducible assumption) | assumption)
       have hx13 := bt_at a0 x3_1
       replace p13 := eq_true p13
       replace q13 := eq_true q13
       go_wp2_with (first | ((with_reducible refine gate_callee (f := 118) rfl ?_); refine goesL_ (some 33) rfl rfl Tryd.func118 (by kernel_rfl) rfl #[.int .u8 (bt a0 x3_1)] rfl (by (try simp only [List.map_toArray, List.map_cons, List.map_nil]); first | done | rfl | (simp only [List.length_drop, List.length_take]; rfl)) ?_; (with_reducible refine (spec_l01Letter.calls (bt a0 x3_1) true _ A14.out).mono ?_); rintro e w' ⟨rfl, ⟨nd, rfl⟩⟩; refine ⟨_, rfl, ?_⟩))
       go_roundg k1
       case measure => have := HK1.out; omega
       case rel => exact ⟨(wrap64 (x3_1 + 1)), (by first | rfl | (simp; done) | (simp [*]; done)), H', ⟨by have := HK1.out; omega⟩, by repeat (first | exact Drawn0.refl _ | apply Drawn0.step)⟩
      ·replace c15 := Bool.eq_false_iff.mpr c15
       subst c15
       rw [if_neg (show ¬ (false = true) by decide)] at H
       have H1 := H
       clear H
       have H := H1
       clear H1
       obtain rfl := Option.some.inj H
       have p4 : 0 ≤ (x3_1 : Int) := of_decide_eq_true (by first | (with_reducible assumption) | assumption)
       have q4 : x3_1 < (a0.size : Int) := of_decide_eq_true (by first | (with_reducible assumption) | assumption)
       have hx4 := bt_at a0 x3_1
       replace p4 := eq_true p4
       replace q4 := eq_true q4
       have p13 : 0 ≤ (x3_1 : Int) := of_decide_eq_true (by first | (with_reducible assumption) | assumption)
       have q13 : x3_1 < (a0.size : Int) := of_decide_eq_true (by first | (with_reducible assumption) | assumption)
       have hx13 := bt_at a0 x3_1
       replace p13 := eq_true p13
       replace q13 := eq_true q13
       go_wp2_with (first | ((with_reducible refine gate_callee (f := 118) rfl ?_); refine goesL_ (some 33) rfl rfl Tryd.func118 (by kernel_rfl) rfl #[.int .u8 (bt a0 x3_1)] rfl (by (try simp only [List.map_toArray, List.map_cons, List.map_nil]); first | done | rfl | (simp only [List.length_drop, List.length_take]; rfl)) ?_; (with_reducible refine (spec_l01Letter.calls (bt a0 x3_1) false _ A14.out).mono ?_); rintro e w' ⟨rfl, ⟨nd, rfl⟩⟩; refine ⟨_, rfl, ?_⟩))
       go_ret
       exact ⟨by first | rfl | (simp; done) | (simp [*]; done), by repeat (first | exact Drawn0.refl _ | apply Drawn0.step)⟩
    ·rw [if_neg c3] at H
     exact absurd H (by simp)
   ·rw [if_neg c2] at H
    have c2b0 : decide (x3_1 < (a0.size : Int)) = false := decide_eq_false c2
    clear c2
    obtain rfl := Option.some.inj H
    go_wp2
    go_ret
    exact ⟨by first | rfl | (simp; done) | (simp [*]; done), by repeat (first | exact Drawn0.refl _ | apply Drawn0.step)⟩
def spec_l01Word.l0 : Nat → ByteArray → Int → Option (Bool)
 | 0, _, _ => none
 | k + 1, x0, x3 => if x3 < (x0.size : Int) then (if 0 ≤ x3 then ((spec_l01Letter.f (bt x0 x3)).bind fun t107 => (if t107 = true then (spec_l01Word.l0 k x0 (wrap64 (x3 + 1))) else (some false))) else (none)) else (some (decide ((x0.size : Int) > 0)))
def spec_l01Word.f (k : Nat) (a0 : ByteArray) : Option (Bool) := spec_l01Word.l0 k a0 0
set_option maxHeartbeats 8000000 in
set_option maxRecDepth 100000 in
theorem spec_l01Word.calls (k : Nat) (a0 : ByteArray) (r : Bool) (w : World) (h : spec_l01Word.f k a0 = some r) :
  Calls Tryd.prog 64 #[.string a0] w fun e w' => e = .returned (.bool r) ∧ Drawn0 w w' := by
 have H : (spec_l01Word.l0 k a0 0) = some r := h
 clear h
 have H' := Aside0.mk H
 clear H
 go_enter Tryd.func64, Tryd.ntmps64
 go_wp2
 go_loopg [3] k (fun kq v3 w' => ∃ (x3_1 : Int), v3 = .int .i64 x3_1 ∧ Aside0 (spec_l01Word.l0 kq a0 x3_1 = some r) ∧ Aside0 (kq ≤ k) ∧ Drawn0 w w')
 case atStart => exact ⟨(0), (by first | rfl | (simp; done) | (simp [*]; done)), H', ⟨Nat.le_refl _⟩, by repeat (first | exact Drawn0.refl _ | apply Drawn0.step)⟩
 case round =>
  clear H'
  obtain ⟨x3_1, rfl, HA, HK1, ⟨m1, rfl⟩⟩ := hrel
  cases gk with
  | zero => exact absurd HA.out (by simp [spec_l01Word.l0])
  | succ k1 =>
   have H := HA.out
   clear HA
   simp only [spec_l01Word.l0] at H
   by_cases c2 : x3_1 < (a0.size : Int)
   ·rw [if_pos c2] at H
    have c2b0 : decide (x3_1 < (a0.size : Int)) = true := decide_eq_true c2
    clear c2
    by_cases c3 : 0 ≤ x3_1
    ·rw [if_pos c3] at H
     have c3b0 : decide (0 ≤ x3_1) = true := decide_eq_true c3
     clear c3
     replace H := Option.bind_eq_some_iff.mp H
     obtain ⟨t107, A50, H⟩ := H
     (try dsimp only at H)
     have A5 := Aside0.mk A50
     clear A50
     by_cases c6 : t107 = true
     ·subst c6
      rw [if_pos rfl] at H
      have H1 := H
      clear H
      have H := H1
      clear H1
      have H' := Aside0.mk H
      clear H
      have p4 : 0 ≤ (x3_1 : Int) := of_decide_eq_true (by first | (with_reducible assumption) | assumption)
      have q4 : x3_1 < (a0.size : Int) := of_decide_eq_true (by first | (with_reducible assumption) | assumption)
      have hx4 := bt_at a0 x3_1
      replace p4 := eq_true p4
      replace q4 := eq_true q4
      go_wp2_with (first | ((with_reducible refine gate_callee (f := 118) rfl ?_); refine goesL_ (some 13) rfl rfl Tryd.func118 (by kernel_rfl) rfl #[.int .u8 (bt a0 x3_1)] rfl (by (try simp only [List.map_toArray, List.map_cons, List.map_nil]); first | done | rfl | (simp only [List.length_drop, List.length_take]; rfl)) ?_; (with_reducible refine (spec_l01Letter.calls (bt a0 x3_1) true _ A5.out).mono ?_); rintro e w' ⟨rfl, ⟨nd, rfl⟩⟩; refine ⟨_, rfl, ?_⟩))
      go_roundg k1
      case measure => have := HK1.out; omega
      case rel => exact ⟨(wrap64 (x3_1 + 1)), (by first | rfl | (simp; done) | (simp [*]; done)), H', ⟨by have := HK1.out; omega⟩, by repeat (first | exact Drawn0.refl _ | apply Drawn0.step)⟩
     ·replace c6 := Bool.eq_false_iff.mpr c6
      subst c6
      rw [if_neg (show ¬ (false = true) by decide)] at H
      have H1 := H
      clear H
      have H := H1
      clear H1
      obtain rfl := Option.some.inj H
      have p4 : 0 ≤ (x3_1 : Int) := of_decide_eq_true (by first | (with_reducible assumption) | assumption)
      have q4 : x3_1 < (a0.size : Int) := of_decide_eq_true (by first | (with_reducible assumption) | assumption)
      have hx4 := bt_at a0 x3_1
      replace p4 := eq_true p4
      replace q4 := eq_true q4
      go_wp2_with (first | ((with_reducible refine gate_callee (f := 118) rfl ?_); refine goesL_ (some 13) rfl rfl Tryd.func118 (by kernel_rfl) rfl #[.int .u8 (bt a0 x3_1)] rfl (by (try simp only [List.map_toArray, List.map_cons, List.map_nil]); first | done | rfl | (simp only [List.length_drop, List.length_take]; rfl)) ?_; (with_reducible refine (spec_l01Letter.calls (bt a0 x3_1) false _ A5.out).mono ?_); rintro e w' ⟨rfl, ⟨nd, rfl⟩⟩; refine ⟨_, rfl, ?_⟩))
      go_ret
      exact ⟨by first | rfl | (simp; done) | (simp [*]; done), by repeat (first | exact Drawn0.refl _ | apply Drawn0.step)⟩
    ·rw [if_neg c3] at H
     exact absurd H (by simp)
   ·rw [if_neg c2] at H
    have c2b0 : decide (x3_1 < (a0.size : Int)) = false := decide_eq_false c2
    clear c2
    obtain rfl := Option.some.inj H
    go_wp2
    go_ret
    exact ⟨by first | rfl | (simp; done) | (simp [*]; done), by repeat (first | exact Drawn0.refl _ | apply Drawn0.step)⟩
end Go.Proofs.YticjkfacdmmopaaDoor.Q
namespace Go.Proofs.YticjkfacdmmopaaDoor.Ext
end Go.Proofs.YticjkfacdmmopaaDoor.Ext
namespace Go.Proofs.YticjkfacdmmopaaDoor.Q
open Go.Proofs.YticjkfacdmmopaaDoor.Ext
open Go.RowKit Go.Proofs.YticjkfacdmmopaaDoorW.PrintWords Go.Proofs.YticjkfacdmmopaaDoorW.PrintLast Go.Proofs.YticjkfacdmmopaaDoorW.PrintMore
attribute [local go_sem] max2_int min2_int max_two min_two max_three min_three max_four min_four
set_option linter.unusedVariables false
set_option linter.unusedSimpArgs false
def spec_l01By.l0 : Nat → Int → Int → Int → Int → Int → Int → Int → Int → Int → Int → Int → Int → Int → Int → Int → Int → Int → Int → Int → Int → Int → Int → Int → Int → Int → Int → Int → Int → Int → Int → Int → List (S137) → Option (Int)
 | 0, _, _, _, _, _, _, _, _, _, _, _, _, _, _, _, _, _, _, _, _, _, _, _, _, _, _, _, _, _, _, _, _ => none
 | k + 1, x1, x2, x7, x1000, x1001, x1002, x1003, x1004, x1005, x1006, x1007, x1008, x1009, x1010, x1011, x1012, x1013, x1014, x1015, x1016, x1017, x1018, x1019, x1020, x1021, x1022, x1023, x1024, x1025, x1026, x1027, x1028 => if x7 < (x1028.length : Int) then (if 0 ≤ x7 then (if ((rd_T137 x1028 x7).f0) = x1 then (if ((rd_T137 x1028 x7).f1) = x2 then (some (wrap64 ((rd_T137 x1028 x7).f2))) else (spec_l01By.l0 k x1 x2 (wrap64 (x7 + 1)) x1000 x1001 x1002 x1003 x1004 x1005 x1006 x1007 x1008 x1009 x1010 x1011 x1012 x1013 x1014 x1015 x1016 x1017 x1018 x1019 x1020 x1021 x1022 x1023 x1024 x1025 x1026 x1027 x1028)) else (spec_l01By.l0 k x1 x2 (wrap64 (x7 + 1)) x1000 x1001 x1002 x1003 x1004 x1005 x1006 x1007 x1008 x1009 x1010 x1011 x1012 x1013 x1014 x1015 x1016 x1017 x1018 x1019 x1020 x1021 x1022 x1023 x1024 x1025 x1026 x1027 x1028)) else (none)) else (some 0)
def spec_l01By.f (k : Nat) (G0 G1 G2 G3 G4 G5 G6 G7 G8 G9 G10 G11 G12 G13 G14 G15 G16 G17 G18 G19 G20 G21 G22 G23 G24 G25 G26 G27 : Int) (G28 : List (S137)) (a1 : Int) (a2 : Int) : Option (Int) := spec_l01By.l0 k a1 a2 0 G0 G1 G2 G3 G4 G5 G6 G7 G8 G9 G10 G11 G12 G13 G14 G15 G16 G17 G18 G19 G20 G21 G22 G23 G24 G25 G26 G27 G28
set_option maxHeartbeats 8000000 in
set_option maxRecDepth 100000 in
theorem spec_l01By.calls (k : Nat) (g : Nat) (G0 G1 G2 G3 G4 G5 G6 G7 G8 G9 G10 G11 G12 G13 G14 G15 G16 G17 G18 G19 G20 G21 G22 G23 G24 G25 G26 G27 : Int) (G28 : List (S137)) (a1 a2 r : Int) (w0 w : World) (hI : IsS32 w0 w g G0 G1 G2 G3 G4 G5 G6 G7 G8 G9 G10 G11 G12 G13 G14 G15 G16 G17 G18 G19 G20 G21 G22 G23 G24 G25 G26 G27 G28) (hB : Below w0.heap.size w0 w) (h : spec_l01By.f k G0 G1 G2 G3 G4 G5 G6 G7 G8 G9 G10 G11 G12 G13 G14 G15 G16 G17 G18 G19 G20 G21 G22 G23 G24 G25 G26 G27 G28 a1 a2 = some r) :
  Calls Tryd.prog 119 #[.pointer (some ⟨g, 0, none⟩), .int .u8 a1, .int .u8 a2] w fun e w' => e = .returned (.int .i64 r) ∧ IsS32 w0 w' g G0 G1 G2 G3 G4 G5 G6 G7 G8 G9 G10 G11 G12 G13 G14 G15 G16 G17 G18 G19 G20 G21 G22 G23 G24 G25 G26 G27 G28 ∧ Below w0.heap.size w0 w' ∧ KeepBut w w' g none := by
 have HI0 := Aside0.mk hI
 have HK := Aside0.mk (KeepBut.refl w g none)
 have HL := Aside0.mk hB.size
 clear hI
 have HW0 := Aside0.mk hB.size
 have HB := Aside0.mk hB
 clear hB
 have H : (spec_l01By.l0 k a1 a2 0 G0 G1 G2 G3 G4 G5 G6 G7 G8 G9 G10 G11 G12 G13 G14 G15 G16 G17 G18 G19 G20 G21 G22 G23 G24 G25 G26 G27 G28) = some r := h
 clear h
 have H' := Aside0.mk H
 clear H
 go_enter Tryd.func119, Tryd.ntmps119
 go_wp2
 go_loopg [7] k (fun kq v7 w' => ∃ (x7_1 : Int), v7 = .int .i64 x7_1 ∧ Aside0 (spec_l01By.l0 kq a1 a2 x7_1 G0 G1 G2 G3 G4 G5 G6 G7 G8 G9 G10 G11 G12 G13 G14 G15 G16 G17 G18 G19 G20 G21 G22 G23 G24 G25 G26 G27 G28 = some r) ∧ Aside0 (kq ≤ k) ∧ Aside0 (IsS32 w0 w' g G0 G1 G2 G3 G4 G5 G6 G7 G8 G9 G10 G11 G12 G13 G14 G15 G16 G17 G18 G19 G20 G21 G22 G23 G24 G25 G26 G27 G28) ∧ Aside0 (KeepBut w w' g none) ∧ Aside0 (Below w0.heap.size w0 w'))
 case atStart => exact ⟨(0), (by first | rfl | (simp; done) | (simp [*]; done)), H', ⟨Nat.le_refl _⟩, ⟨by repeat (first | (with_reducible first | exact HI0.out | apply IsS32.alloc | apply IsS32.drewN | apply IsS32.drew) | exact HI0.out)⟩, ⟨by repeat (first | (with_reducible first | exact HK.out | apply KeepBut.set_ | apply keep_drewN | apply keep_drew | apply keep_alloc) | exact HK.out)⟩, ⟨by repeat (first | (with_reducible first | exact HB.out | apply bwA | apply pwN | apply bw1 | refine below_set ?_ (IsS32.ge HI0.out)) | exact HB.out)⟩⟩
 case round =>
  clear H'
  try clear c1
  try clear p2
  obtain ⟨x7_1, rfl, HA, HK1, HI0, HK, HB⟩ := hrel
  cases gk with
  | zero => exact absurd HA.out (by simp [spec_l01By.l0])
  | succ k1 =>
   have H := HA.out
   clear HA
   simp only [spec_l01By.l0] at H
   by_cases c4 : x7_1 < (G28.length : Int)
   ·rw [if_pos c4] at H
    have c4b0 : decide (x7_1 < (G28.length : Int)) = true := decide_eq_true c4
    clear c4
    by_cases c5 : 0 ≤ x7_1
    ·rw [if_pos c5] at H
     have c5b0 : decide (0 ≤ x7_1) = true := decide_eq_true c5
     clear c5
     by_cases c6 : ((rd_T137 G28 x7_1).f0) = a1
     ·rw [if_pos c6] at H
      have c6b0 : (((rd_T137 G28 x7_1).f0) == a1) = true := beq_iff_eq.mpr c6
      have c6b1 : (((rd_T137 G28 x7_1).f0) != a1) = false := bne_eq_false_iff_eq.mpr c6
      clear c6
      by_cases c7 : ((rd_T137 G28 x7_1).f1) = a2
      ·rw [if_pos c7] at H
       have c7b0 : (((rd_T137 G28 x7_1).f1) == a2) = true := beq_iff_eq.mpr c7
       have c7b1 : (((rd_T137 G28 x7_1).f1) != a2) = false := bne_eq_false_iff_eq.mpr c7
       clear c7
       obtain rfl := Option.some.inj H
       obtain ⟨ASz8_28, cSz8_28, HGz8, hgz8, HSz8_28⟩ := HI0.out
       have hcz8_26 := cellS32_26 HGz8
       have hcz8_27 := cellS32_27 HGz8
       have hcz8_28 := cellS32_28 HGz8
       clear HGz8 hgz8
       have p108 : 0 ≤ (x7_1 : Int) := of_decide_eq_true (by first | (with_reducible assumption) | assumption)
       have q108 : x7_1 < (G28.length : Int) := of_decide_eq_true (by first | (with_reducible assumption) | assumption)
       obtain ⟨ad108, e108, hx108_0, hx108_1, hx108_2⟩ := at_T137 HSz8_28 x7_1 p108 q108
       cases e108
       replace hx108_0 := pw_cell_below HB.out hx108_0
       replace hx108_1 := pw_cell_below HB.out hx108_1
       replace hx108_2 := pw_cell_below HB.out hx108_2
       replace p108 := eq_true p108
       replace q108 := eq_true q108
       have p109 : 0 ≤ (x7_1 : Int) := of_decide_eq_true (by first | (with_reducible assumption) | assumption)
       have q109 : x7_1 < (G28.length : Int) := of_decide_eq_true (by first | (with_reducible assumption) | assumption)
       obtain ⟨ad109, e109, hx109_0, hx109_1, hx109_2⟩ := at_T137 HSz8_28 x7_1 p109 q109
       obtain rfl : ad108 = ad109 := (by injection e109)
       replace hx109_0 := pw_cell_below HB.out hx109_0
       replace hx109_1 := pw_cell_below HB.out hx109_1
       replace hx109_2 := pw_cell_below HB.out hx109_2
       replace p109 := eq_true p109
       replace q109 := eq_true q109
       have p110 : 0 ≤ (x7_1 : Int) := of_decide_eq_true (by first | (with_reducible assumption) | assumption)
       have q110 : x7_1 < (G28.length : Int) := of_decide_eq_true (by first | (with_reducible assumption) | assumption)
       obtain ⟨ad110, e110, hx110_0, hx110_1, hx110_2⟩ := at_T137 HSz8_28 x7_1 p110 q110
       obtain rfl : ad108 = ad110 := (by injection e110)
       replace hx110_0 := pw_cell_below HB.out hx110_0
       replace hx110_1 := pw_cell_below HB.out hx110_1
       replace hx110_2 := pw_cell_below HB.out hx110_2
       replace p110 := eq_true p110
       replace q110 := eq_true q110
       go_wp2
       go_ret
       exact ⟨by first | rfl | (simp [errW_none, errW_some] <;> rfl) | (simp [*, errW_none, errW_some] <;> rfl), by repeat (first | (with_reducible first | exact HI0.out | apply IsS32.alloc | apply IsS32.drewN | apply IsS32.drew) | exact HI0.out), by repeat (first | (with_reducible first | exact HB.out | apply bwA | apply pwN | apply bw1 | refine below_set ?_ (IsS32.ge HI0.out)) | exact HB.out), by repeat (first | (with_reducible first | exact HK.out | apply KeepBut.set_ | apply keep_drewN | apply keep_drew | apply keep_alloc) | exact HK.out)⟩
      ·rw [if_neg c7] at H
       have c7b0 : (((rd_T137 G28 x7_1).f1) == a2) = false := beq_eq_false_iff_ne.mpr c7
       have c7b1 : (((rd_T137 G28 x7_1).f1) != a2) = true := bne_iff_ne.mpr c7
       have H' := Aside0.mk H
       clear H
       obtain ⟨ASz9_28, cSz9_28, HGz9, hgz9, HSz9_28⟩ := HI0.out
       have hcz9_26 := cellS32_26 HGz9
       have hcz9_27 := cellS32_27 HGz9
       have hcz9_28 := cellS32_28 HGz9
       clear HGz9 hgz9
       have p108 : 0 ≤ (x7_1 : Int) := of_decide_eq_true (by first | (with_reducible assumption) | assumption)
       have q108 : x7_1 < (G28.length : Int) := of_decide_eq_true (by first | (with_reducible assumption) | assumption)
       obtain ⟨ad108, e108, hx108_0, hx108_1, hx108_2⟩ := at_T137 HSz9_28 x7_1 p108 q108
       cases e108
       replace hx108_0 := pw_cell_below HB.out hx108_0
       replace hx108_1 := pw_cell_below HB.out hx108_1
       replace hx108_2 := pw_cell_below HB.out hx108_2
       replace p108 := eq_true p108
       replace q108 := eq_true q108
       have p109 : 0 ≤ (x7_1 : Int) := of_decide_eq_true (by first | (with_reducible assumption) | assumption)
       have q109 : x7_1 < (G28.length : Int) := of_decide_eq_true (by first | (with_reducible assumption) | assumption)
       obtain ⟨ad109, e109, hx109_0, hx109_1, hx109_2⟩ := at_T137 HSz9_28 x7_1 p109 q109
       obtain rfl : ad108 = ad109 := (by injection e109)
       replace hx109_0 := pw_cell_below HB.out hx109_0
       replace hx109_1 := pw_cell_below HB.out hx109_1
       replace hx109_2 := pw_cell_below HB.out hx109_2
       replace p109 := eq_true p109
       replace q109 := eq_true q109
       go_wp2
       go_roundg k1
       case measure => have := HK1.out; omega
       case rel => exact ⟨(wrap64 (x7_1 + 1)), (by first | rfl | (simp; done) | (simp [*]; done)), H', ⟨by have := HK1.out; omega⟩, ⟨by repeat (first | (with_reducible first | exact HI0.out | apply IsS32.alloc | apply IsS32.drewN | apply IsS32.drew) | exact HI0.out)⟩, ⟨by repeat (first | (with_reducible first | exact HK.out | apply KeepBut.set_ | apply keep_drewN | apply keep_drew | apply keep_alloc) | exact HK.out)⟩, ⟨by repeat (first | (with_reducible first | exact HB.out | apply bwA | apply pwN | apply bw1 | refine below_set ?_ (IsS32.ge HI0.out)) | exact HB.out)⟩⟩
     ·rw [if_neg c6] at H
      have c6b0 : (((rd_T137 G28 x7_1).f0) == a1) = false := beq_eq_false_iff_ne.mpr c6
      have c6b1 : (((rd_T137 G28 x7_1).f0) != a1) = true := bne_iff_ne.mpr c6
      have H' := Aside0.mk H
      clear H
      obtain ⟨ASz10_28, cSz10_28, HGz10, hgz10, HSz10_28⟩ := HI0.out
      have hcz10_26 := cellS32_26 HGz10
      have hcz10_27 := cellS32_27 HGz10
      have hcz10_28 := cellS32_28 HGz10
      clear HGz10 hgz10
      have p108 : 0 ≤ (x7_1 : Int) := of_decide_eq_true (by first | (with_reducible assumption) | assumption)
      have q108 : x7_1 < (G28.length : Int) := of_decide_eq_true (by first | (with_reducible assumption) | assumption)
      obtain ⟨ad108, e108, hx108_0, hx108_1, hx108_2⟩ := at_T137 HSz10_28 x7_1 p108 q108
      cases e108
      replace hx108_0 := pw_cell_below HB.out hx108_0
      replace hx108_1 := pw_cell_below HB.out hx108_1
      replace hx108_2 := pw_cell_below HB.out hx108_2
      replace p108 := eq_true p108
      replace q108 := eq_true q108
      go_wp2
      go_roundg k1
      case measure => have := HK1.out; omega
      case rel => exact ⟨(wrap64 (x7_1 + 1)), (by first | rfl | (simp; done) | (simp [*]; done)), H', ⟨by have := HK1.out; omega⟩, ⟨by repeat (first | (with_reducible first | exact HI0.out | apply IsS32.alloc | apply IsS32.drewN | apply IsS32.drew) | exact HI0.out)⟩, ⟨by repeat (first | (with_reducible first | exact HK.out | apply KeepBut.set_ | apply keep_drewN | apply keep_drew | apply keep_alloc) | exact HK.out)⟩, ⟨by repeat (first | (with_reducible first | exact HB.out | apply bwA | apply pwN | apply bw1 | refine below_set ?_ (IsS32.ge HI0.out)) | exact HB.out)⟩⟩
    ·rw [if_neg c5] at H
     exact absurd H (by simp)
   ·rw [if_neg c4] at H
    have c4b0 : decide (x7_1 < (G28.length : Int)) = false := decide_eq_false c4
    clear c4
    obtain rfl := Option.some.inj H
    obtain ⟨ASz11_28, cSz11_28, HGz11, hgz11, HSz11_28⟩ := HI0.out
    have hcz11_26 := cellS32_26 HGz11
    have hcz11_27 := cellS32_27 HGz11
    have hcz11_28 := cellS32_28 HGz11
    clear HGz11 hgz11
    go_wp2
    go_ret
    exact ⟨by first | rfl | (simp [errW_none, errW_some] <;> rfl) | (simp [*, errW_none, errW_some] <;> rfl), by repeat (first | (with_reducible first | exact HI0.out | apply IsS32.alloc | apply IsS32.drewN | apply IsS32.drew) | exact HI0.out), by repeat (first | (with_reducible first | exact HB.out | apply bwA | apply pwN | apply bw1 | refine below_set ?_ (IsS32.ge HI0.out)) | exact HB.out), by repeat (first | (with_reducible first | exact HK.out | apply KeepBut.set_ | apply keep_drewN | apply keep_drew | apply keep_alloc) | exact HK.out)⟩
end Go.Proofs.YticjkfacdmmopaaDoor.Q
namespace Go.Proofs.YticjkfacdmmopaaDoor.Ext
end Go.Proofs.YticjkfacdmmopaaDoor.Ext
namespace Go.Proofs.YticjkfacdmmopaaDoor.Q
open Go.Proofs.YticjkfacdmmopaaDoor.Ext
open Go.RowKit Go.Proofs.YticjkfacdmmopaaDoorW.PrintWords Go.Proofs.YticjkfacdmmopaaDoorW.PrintLast Go.Proofs.YticjkfacdmmopaaDoorW.PrintMore
attribute [local go_sem] max2_int min2_int max_two min_two max_three min_three max_four min_four
set_option linter.unusedVariables false
set_option linter.unusedSimpArgs false
def spec_l01Wide.l0 : Nat → ByteArray → Int → Int → Int → Int → Int → Int → Int → Int → Int → Int → Int → Int → Int → Int → Int → Int → Int → Int → Int → Int → Int → Int → Int → Int → Int → Int → Int → Int → Int → Int → List (S137) → Option (Int)
 | 0, _, _, _, _, _, _, _, _, _, _, _, _, _, _, _, _, _, _, _, _, _, _, _, _, _, _, _, _, _, _, _, _ => none
 | k + 1, x1, x5, x6, x1000, x1001, x1002, x1003, x1004, x1005, x1006, x1007, x1008, x1009, x1010, x1011, x1012, x1013, x1014, x1015, x1016, x1017, x1018, x1019, x1020, x1021, x1022, x1023, x1024, x1025, x1026, x1027, x1028 => if x6 < (x1.size : Int) then (if 0 ≤ x6 then (if 0 ≤ (((bt x1 x6) - 65) % 256) then (if (((bt x1 x6) - 65) % 256) < 26 then (if x6 > 0 then (if 0 ≤ (wrap64 (x6 - 1)) then (if (wrap64 (x6 - 1)) < (x1.size : Int) then ((spec_l01By.f k x1000 x1001 x1002 x1003 x1004 x1005 x1006 x1007 x1008 x1009 x1010 x1011 x1012 x1013 x1014 x1015 x1016 x1017 x1018 x1019 x1020 x1021 x1022 x1023 x1024 x1025 x1026 x1027 x1028 (bt x1 (wrap64 (x6 - 1))) (bt x1 x6)).bind fun t111 => (spec_l01Wide.l0 k x1 (wrap64 ((wrap64 (x5 + (wrap64 (rd [x1000, x1001, x1002, x1003, x1004, x1005, x1006, x1007, x1008, x1009, x1010, x1011, x1012, x1013, x1014, x1015, x1016, x1017, x1018, x1019, x1020, x1021, x1022, x1023, x1024, x1025] (((bt x1 x6) - 65) % 256))))) + (wrap64 ((wrap64 (x1027)) + t111)))) (wrap64 (x6 + 1)) x1000 x1001 x1002 x1003 x1004 x1005 x1006 x1007 x1008 x1009 x1010 x1011 x1012 x1013 x1014 x1015 x1016 x1017 x1018 x1019 x1020 x1021 x1022 x1023 x1024 x1025 x1026 x1027 x1028)) else (none)) else (none)) else (spec_l01Wide.l0 k x1 (wrap64 (x5 + (wrap64 (rd [x1000, x1001, x1002, x1003, x1004, x1005, x1006, x1007, x1008, x1009, x1010, x1011, x1012, x1013, x1014, x1015, x1016, x1017, x1018, x1019, x1020, x1021, x1022, x1023, x1024, x1025] (((bt x1 x6) - 65) % 256))))) (wrap64 (x6 + 1)) x1000 x1001 x1002 x1003 x1004 x1005 x1006 x1007 x1008 x1009 x1010 x1011 x1012 x1013 x1014 x1015 x1016 x1017 x1018 x1019 x1020 x1021 x1022 x1023 x1024 x1025 x1026 x1027 x1028)) else (none)) else (none)) else (none)) else (some x5)
def spec_l01Wide.f (k : Nat) (G0 G1 G2 G3 G4 G5 G6 G7 G8 G9 G10 G11 G12 G13 G14 G15 G16 G17 G18 G19 G20 G21 G22 G23 G24 G25 G26 G27 : Int) (G28 : List (S137)) (a1 : ByteArray) : Option (Int) := spec_l01Wide.l0 k a1 0 0 G0 G1 G2 G3 G4 G5 G6 G7 G8 G9 G10 G11 G12 G13 G14 G15 G16 G17 G18 G19 G20 G21 G22 G23 G24 G25 G26 G27 G28
def spec_l01Wide.T5 : Bool × List (List Nat × List Nat) := (true, [([], []), ([], []), ([], []), ([], []), ([2, 3], [2, 3]), ([4], [4]), ([1], [1]), ([6], [6]), ([7, 5], [5, 7]), ([8], [8]), ([9], [9]), ([0, 10], [0, 10]), ([11, 0, 1, 2, 3, 4, 5, 6, 7, 8, 9, 10, 11], [0, 11])])
def spec_l01Wide.B5 : List Nat := [0, 0, 0, 0, 12, 28, 2, 66, 254, 510, 1022, 2047, 4095]
theorem spec_l01Wide.tab5 : rtab .any (opsOf Tryd.f65 5) = spec_l01Wide.T5 := by kernel_rfl
theorem spec_l01Wide.bits5 : waitsOk spec_l01Wide.T5.2 spec_l01Wide.B5 = true := by kernel_rfl
def spec_l01Wide.T7 : Bool × List (List Nat × List Nat) := (true, [([], []), ([], []), ([1], [1]), ([2], [2]), ([3], [3]), ([4], [4]), ([], []), ([], []), ([], []), ([8], [8]), ([7, 9], [7, 9]), ([], []), ([], []), ([11, 12], [11, 12]), ([6, 10, 13], [6, 10, 13]), ([5, 14], [5, 14]), ([0, 15], [0, 15]), ([16, 14, 0, 1, 2, 3, 4, 5, 6, 7, 8, 9, 10, 11, 12, 13, 14, 15, 16], [0, 16])])
def spec_l01Wide.B7 : List Nat := [0, 0, 2, 6, 14, 30, 0, 0, 0, 256, 896, 0, 0, 6144, 16320, 32766, 65535, 131071]
theorem spec_l01Wide.tab7 : rtab .any (opsOf Tryd.f65 7) = spec_l01Wide.T7 := by kernel_rfl
theorem spec_l01Wide.bits7 : waitsOk spec_l01Wide.T7.2 spec_l01Wide.B7 = true := by kernel_rfl
set_option maxHeartbeats 8000000 in
set_option maxRecDepth 100000 in
theorem spec_l01Wide.calls (k : Nat) (g : Nat) (G0 G1 G2 G3 G4 G5 G6 G7 G8 G9 G10 G11 G12 G13 G14 G15 G16 G17 G18 G19 G20 G21 G22 G23 G24 G25 G26 G27 : Int) (G28 : List (S137)) (a1 : ByteArray) (r : Int) (w0 w : World) (hI : IsS32 w0 w g G0 G1 G2 G3 G4 G5 G6 G7 G8 G9 G10 G11 G12 G13 G14 G15 G16 G17 G18 G19 G20 G21 G22 G23 G24 G25 G26 G27 G28) (hB : Below w0.heap.size w0 w) (h : spec_l01Wide.f k G0 G1 G2 G3 G4 G5 G6 G7 G8 G9 G10 G11 G12 G13 G14 G15 G16 G17 G18 G19 G20 G21 G22 G23 G24 G25 G26 G27 G28 a1 = some r) :
  Calls Tryd.prog 65 #[.pointer (some ⟨g, 0, none⟩), .string a1] w fun e w' => e = .returned (.int .i64 r) ∧ IsS32 w0 w' g G0 G1 G2 G3 G4 G5 G6 G7 G8 G9 G10 G11 G12 G13 G14 G15 G16 G17 G18 G19 G20 G21 G22 G23 G24 G25 G26 G27 G28 ∧ Below w0.heap.size w0 w' ∧ KeepBut w w' g none := by
 have HI0 := Aside0.mk hI
 have HK := Aside0.mk (KeepBut.refl w g none)
 have HL := Aside0.mk hB.size
 clear hI
 have HW0 := Aside0.mk hB.size
 have HB := Aside0.mk hB
 clear hB
 have H : (spec_l01Wide.l0 k a1 0 0 G0 G1 G2 G3 G4 G5 G6 G7 G8 G9 G10 G11 G12 G13 G14 G15 G16 G17 G18 G19 G20 G21 G22 G23 G24 G25 G26 G27 G28) = some r := h
 clear h
 have H' := Aside0.mk H
 clear H
 go_enter Tryd.func65, Tryd.ntmps65
 go_wp2
 go_loopg [5, 6] k (fun kq v5 v6 w' => ∃ (x5_1 : Int) (x6_1 : Int), v5 = .int .i64 x5_1 ∧ v6 = .int .i64 x6_1 ∧ Aside0 (spec_l01Wide.l0 kq a1 x5_1 x6_1 G0 G1 G2 G3 G4 G5 G6 G7 G8 G9 G10 G11 G12 G13 G14 G15 G16 G17 G18 G19 G20 G21 G22 G23 G24 G25 G26 G27 G28 = some r) ∧ Aside0 (kq ≤ k) ∧ Aside0 (IsS32 w0 w' g G0 G1 G2 G3 G4 G5 G6 G7 G8 G9 G10 G11 G12 G13 G14 G15 G16 G17 G18 G19 G20 G21 G22 G23 G24 G25 G26 G27 G28) ∧ Aside0 (KeepBut w w' g none) ∧ Aside0 (Below w0.heap.size w0 w'))
 case atStart => exact ⟨(0), (0), (by first | rfl | (simp; done) | (simp [*]; done)), (by first | rfl | (simp; done) | (simp [*]; done)), H', ⟨Nat.le_refl _⟩, ⟨by repeat (first | (with_reducible first | exact HI0.out | apply IsS32.alloc | apply IsS32.drewN | apply IsS32.drew) | exact HI0.out)⟩, ⟨by repeat (first | (with_reducible first | exact HK.out | apply KeepBut.set_ | apply keep_drewN | apply keep_drew | apply keep_alloc) | exact HK.out)⟩, ⟨by repeat (first | (with_reducible first | exact HB.out | apply bwA | apply pwN | apply bw1 | refine below_set ?_ (IsS32.ge HI0.out)) | exact HB.out)⟩⟩
 case round =>
  clear H'
  try clear p2
  obtain ⟨x5_1, x6_1, rfl, rfl, HA, HK1, HI0, HK, HB⟩ := hrel
  cases gk with
  | zero => exact absurd HA.out (by simp [spec_l01Wide.l0])
  | succ k1 =>
   have H := HA.out
   clear HA
   simp only [spec_l01Wide.l0] at H
   by_cases c3 : x6_1 < (a1.size : Int)
   ·rw [if_pos c3] at H
    have c3b0 : decide (x6_1 < (a1.size : Int)) = true := decide_eq_true c3
    clear c3
    by_cases c4 : 0 ≤ x6_1
    ·rw [if_pos c4] at H
     have c4b0 : decide (0 ≤ x6_1) = true := decide_eq_true c4
     clear c4
     obtain ⟨ji6, hji6⟩ : ∃ j_ : Int, (((bt a1 x6_1) - 65) % 256) = j_ := ⟨_, rfl⟩
     replace H : (if 0 ≤ (ji6) then (if (ji6) < 26 then (if x6_1 > 0 then (if 0 ≤ (wrap64 (x6_1 - 1)) then (if (wrap64 (x6_1 - 1)) < (a1.size : Int) then ((spec_l01By.f k1 G0 G1 G2 G3 G4 G5 G6 G7 G8 G9 G10 G11 G12 G13 G14 G15 G16 G17 G18 G19 G20 G21 G22 G23 G24 G25 G26 G27 G28 (bt a1 (wrap64 (x6_1 - 1))) (bt a1 x6_1)).bind fun t111 => (spec_l01Wide.l0 k1 a1 (wrap64 ((wrap64 (x5_1 + (wrap64 (rd [G0, G1, G2, G3, G4, G5, G6, G7, G8, G9, G10, G11, G12, G13, G14, G15, G16, G17, G18, G19, G20, G21, G22, G23, G24, G25] (ji6))))) + (wrap64 ((wrap64 (G27)) + t111)))) (wrap64 (x6_1 + 1)) G0 G1 G2 G3 G4 G5 G6 G7 G8 G9 G10 G11 G12 G13 G14 G15 G16 G17 G18 G19 G20 G21 G22 G23 G24 G25 G26 G27 G28)) else (none)) else (none)) else (spec_l01Wide.l0 k1 a1 (wrap64 (x5_1 + (wrap64 (rd [G0, G1, G2, G3, G4, G5, G6, G7, G8, G9, G10, G11, G12, G13, G14, G15, G16, G17, G18, G19, G20, G21, G22, G23, G24, G25] (ji6))))) (wrap64 (x6_1 + 1)) G0 G1 G2 G3 G4 G5 G6 G7 G8 G9 G10 G11 G12 G13 G14 G15 G16 G17 G18 G19 G20 G21 G22 G23 G24 G25 G26 G27 G28)) else (none)) else (none)) = some r := by first | (rw [hji6] at H; exact H) | (simp only [hji6] at H ⊢; exact H)
     by_cases c7 : 0 ≤ (ji6)
     ·rw [if_pos c7] at H
      have c7b0 : decide (0 ≤ (ji6)) = true := decide_eq_true c7
      clear c7
      by_cases c8 : (ji6) < 26
      ·rw [if_pos c8] at H
       have c8b0 : decide ((ji6) < 26) = true := decide_eq_true c8
       clear c8
       by_cases c9 : x6_1 > 0
       ·rw [if_pos c9] at H
        have c9b0 : decide (0 < x6_1) = true := decide_eq_true c9
        clear c9
        obtain ⟨ji10, hji10⟩ : ∃ j_ : Int, (wrap64 (x6_1 - 1)) = j_ := ⟨_, rfl⟩
        replace H : (if 0 ≤ (ji10) then (if (ji10) < (a1.size : Int) then ((spec_l01By.f k1 G0 G1 G2 G3 G4 G5 G6 G7 G8 G9 G10 G11 G12 G13 G14 G15 G16 G17 G18 G19 G20 G21 G22 G23 G24 G25 G26 G27 G28 (bt a1 (ji10)) (bt a1 x6_1)).bind fun t111 => (spec_l01Wide.l0 k1 a1 (wrap64 ((wrap64 (x5_1 + (wrap64 (rd [G0, G1, G2, G3, G4, G5, G6, G7, G8, G9, G10, G11, G12, G13, G14, G15, G16, G17, G18, G19, G20, G21, G22, G23, G24, G25] (ji6))))) + (wrap64 ((wrap64 (G27)) + t111)))) (wrap64 (x6_1 + 1)) G0 G1 G2 G3 G4 G5 G6 G7 G8 G9 G10 G11 G12 G13 G14 G15 G16 G17 G18 G19 G20 G21 G22 G23 G24 G25 G26 G27 G28)) else (none)) else (none)) = some r := by first | (rw [hji10] at H; exact H) | (simp only [hji10] at H ⊢; exact H)
        have hji10w : (IntKind.i64.wrap (x6_1 - 1)) = ji10 := (i64_w _).trans hji10
        by_cases c11 : 0 ≤ (ji10)
        ·rw [if_pos c11] at H
         have c11b0 : decide (0 ≤ (ji10)) = true := decide_eq_true c11
         clear c11
         by_cases c12 : (ji10) < (a1.size : Int)
         ·rw [if_pos c12] at H
          have c12b0 : decide ((ji10) < (a1.size : Int)) = true := decide_eq_true c12
          clear c12
          replace H := Option.bind_eq_some_iff.mp H
          obtain ⟨t111, A150, H⟩ := H
          (try dsimp only at H)
          have A15 := Aside0.mk A150
          clear A150
          have H' := Aside0.mk H
          clear H
          try go_wp2
          have n0_ := Aside0.mk (IsS32.drew HI0.out)
          have n1_ := Aside0.mk (keep_drew HK.out)
          have n2_ := Aside0.mk (bw1 HB.out)
          clear HI0
          clear HK
          clear HB
          have HI0 := n0_
          have HK := n1_
          have HB := n2_
          clear n0_ n1_ n2_
          have p5 : 0 ≤ (x6_1 : Int) := of_decide_eq_true (by first | (with_reducible assumption) | assumption)
          have q5 : x6_1 < (a1.size : Int) := of_decide_eq_true (by first | (with_reducible assumption) | assumption)
          have hx5 := bt_at a1 x6_1
          replace p5 := eq_true p5
          replace q5 := eq_true q5
          have hpx17 : 0 ≤ ((ji6) : Int) := (by first | omega | exact of_decide_eq_true (by first | (with_reducible assumption) | assumption))
          have hqx17 : ((ji6) : Int) < (26 : Int) := (by first | omega | exact of_decide_eq_true (by first | (with_reducible assumption) | assumption))
          refine start_ (n := 13) (S := fun w' => w'.cell? ⟨g, ((ji6) : Int).toNat, none⟩ = some (.int .i8 (rd [G0, G1, G2, G3, G4, G5, G6, G7, G8, G9, G10, G11, G12, G13, G14, G15, G16, G17, G18, G19, G20, G21, G22, G23, G24, G25] (ji6)))) (ds := []) #[false, false, false, false, false, false, false, false, false, false, false, false, false] (by kernel_rfl) rfl rfl ((by obtain ⟨A_28, c_28, hg_, _, _⟩ := HI0.out; exact (blk_cell hg_ _).trans (arrx0_ .i8 [G0, G1, G2, G3, G4, G5, G6, G7, G8, G9, G10, G11, G12, G13, G14, G15, G16, G17, G18, G19, G20, G21, G22, G23, G24, G25] [.int .i8 G26, .int .i8 G27, .slice A_28 G28.length c_28] ((ji6) : Int) hpx17 hqx17))) (fun hHeld => ?_); refine with_tabW spec_l01Wide.tab5 spec_l01Wide.bits5 (fun HT_ HW_ => ?_)
          generalize wr.drew = w16 at HI0 HK HB hHeld ⊢
          refine pure_ (i := 0) (N := some 13) (v := ?_) (a' := ?_) #[true, false, false, false, false, false, false, false, false, false, false, false, false] rfl rfl (any_of HT_.out (by kernel_rfl)) (fun _ _ _ h => h) (Or.inl ⟨by rfl, ?_⟩) ?_ ?_
          rotate_left
          ·intro w'
           go_simp
           with_reducible rfl
          rotate_left
          ·simp only [Act.put, List.setIfInBounds_toArray, List.set_cons_zero, List.set_cons_succ, i64_w, i32_w, u8_w_]
           rfl
          refine pure_ (i := 1) (N := some 14) (v := ?_) (a' := ?_) #[true, true, false, false, false, false, false, false, false, false, false, false, false] rfl rfl (any_of HT_.out (by kernel_rfl)) (fun _ _ _ h => h) (Or.inl ⟨by rfl, ?_⟩) ?_ ?_
          rotate_left
          ·intro w'
           go_simp
           with_reducible rfl
          rotate_left
          ·simp only [Act.put, List.setIfInBounds_toArray, List.set_cons_zero, List.set_cons_succ, i64_w, i32_w, u8_w_]
           rfl
          refine pure_ (i := 2) (N := some 15) (v := ?_) (a' := ?_) #[true, true, true, false, false, false, false, false, false, false, false, false, false] rfl rfl (any_of HT_.out (by kernel_rfl)) (fun _ _ _ h => h) (Or.inl ⟨by rfl, ?_⟩) ?_ ?_
          rotate_left
          ·intro w'
           go_simp
           with_reducible rfl
          rotate_left
          ·simp only [Act.put, List.setIfInBounds_toArray, List.set_cons_zero, List.set_cons_succ, i64_w, i32_w, u8_w_]
           rfl
          refine pure_ (i := 3) (N := some 16) (v := ?_) (a' := ?_) #[true, true, true, true, false, false, false, false, false, false, false, false, false] rfl rfl (any_of HT_.out (by kernel_rfl)) (fun _ _ _ h => h) (Or.inl ⟨by rfl, ?_⟩) ?_ ?_
          rotate_left
          ·intro w'
           go_simp
           with_reducible rfl
          rotate_left
          ·simp only [Act.put, List.setIfInBounds_toArray, List.set_cons_zero, List.set_cons_succ, i64_w, i32_w, u8_w_]
           rfl
          refine pure_ (i := 6) (N := some 19) (v := ?_) (a' := ?_) #[true, true, true, true, false, false, true, false, false, false, false, false, false] rfl rfl (any_of HT_.out (by kernel_rfl)) (fun _ _ _ h => h) (Or.inl ⟨by rfl, ?_⟩) ?_ ?_
          rotate_left
          ·intro w'
           go_simp
           with_reducible rfl
          rotate_left
          ·simp only [Act.put, List.setIfInBounds_toArray, List.set_cons_zero, List.set_cons_succ, i64_w, i32_w, u8_w_]
           rfl
          refine pure_ (i := 7) (N := some 20) (v := ?_) (a' := ?_) #[true, true, true, true, false, false, true, true, false, false, false, false, false] rfl rfl (any_of HT_.out (by kernel_rfl)) (fun _ _ _ h => h) (Or.inl ⟨by rfl, ?_⟩) ?_ ?_
          rotate_left
          ·intro w'
           go_simp
           with_reducible rfl
          rotate_left
          ·simp only [Act.put, List.setIfInBounds_toArray, List.set_cons_zero, List.set_cons_succ, i64_w, i32_w, u8_w_]
           rfl
          refine take_ (i := 4) (N := some 17) (v := ?_) (a' := ?_) #[true, true, true, true, true, false, true, true, false, false, false, false, false] rfl rfl (take_ofW HT_.out HW_.out (by kernel_rfl)) (fun _ _ _ h => h) (Or.inl ⟨by rfl, ?_⟩) hHeld ?_ ?_
          rotate_left
          ·intro w' s0
           go_simp
           with_reducible rfl
          rotate_left
          ·simp only [Act.put, List.setIfInBounds_toArray, List.set_cons_zero, List.set_cons_succ, i64_w, i32_w, u8_w_]
           rfl
          refine pure_ (i := 5) (N := some 18) (v := ?_) (a' := ?_) #[true, true, true, true, true, true, true, true, false, false, false, false, false] rfl rfl (any_of HT_.out (by kernel_rfl)) (fun _ _ _ h => h) (Or.inl ⟨by rfl, ?_⟩) ?_ ?_
          rotate_left
          ·intro w'
           go_simp
           with_reducible rfl
          rotate_left
          ·simp only [Act.put, List.setIfInBounds_toArray, List.set_cons_zero, List.set_cons_succ, i64_w, i32_w, u8_w_]
           rfl
          refine pure_ (i := 8) (N := some 21) (v := ?_) (a' := ?_) #[true, true, true, true, true, true, true, true, true, false, false, false, false] rfl rfl (any_of HT_.out (by kernel_rfl)) (fun _ _ _ h => h) (Or.inl ⟨by rfl, ?_⟩) ?_ ?_
          rotate_left
          ·intro w'
           go_simp
           with_reducible rfl
          rotate_left
          ·simp only [Act.put, List.setIfInBounds_toArray, List.set_cons_zero, List.set_cons_succ, i64_w, i32_w, u8_w_]
           rfl
          refine take_ (i := 9) (N := some 22) (v := ?_) (a' := ?_) #[true, true, true, true, true, true, true, true, true, true, false, false, false] rfl rfl (take_ofW HT_.out HW_.out (by kernel_rfl)) (fun _ _ _ h => h) (Or.inl ⟨by rfl, ?_⟩) hHeld ?_ ?_
          rotate_left
          ·intro w' s0
           go_simp
           with_reducible rfl
          rotate_left
          ·simp only [Act.put, List.setIfInBounds_toArray, List.set_cons_zero, List.set_cons_succ, i64_w, i32_w, u8_w_]
           rfl
          refine pure_ (i := 10) (N := some 23) (v := ?_) (a' := ?_) #[true, true, true, true, true, true, true, true, true, true, true, false, false] rfl rfl (any_of HT_.out (by kernel_rfl)) (fun _ _ _ h => h) (Or.inl ⟨by rfl, ?_⟩) ?_ ?_
          rotate_left
          ·intro w'
           go_simp
           with_reducible rfl
          rotate_left
          ·simp only [Act.put, List.setIfInBounds_toArray, List.set_cons_zero, List.set_cons_succ, i64_w, i32_w, u8_w_]
           rfl
          refine pure_ (i := 11) (N := some 24) (v := ?_) (a' := ?_) #[true, true, true, true, true, true, true, true, true, true, true, true, false] rfl rfl (any_of HT_.out (by kernel_rfl)) (fun _ _ _ h => h) (Or.inl ⟨by rfl, ?_⟩) ?_ ?_
          rotate_left
          ·intro w'
           go_simp
           with_reducible rfl
          rotate_left
          ·simp only [Act.put, List.setIfInBounds_toArray, List.set_cons_zero, List.set_cons_succ, i64_w, i32_w, u8_w_]
           rfl
          refine pure_ (i := 12) (N := some 5) (v := ?_) (a' := ?_) #[true, true, true, true, true, true, true, true, true, true, true, true, true] rfl rfl (any_of HT_.out (by kernel_rfl)) (fun _ _ _ h => h) (Or.inl ⟨by rfl, ?_⟩) ?_ ?_
          rotate_left
          ·intro w'
           go_simp
           with_reducible rfl
          rotate_left
          ·simp only [Act.put, List.setIfInBounds_toArray, List.set_cons_zero, List.set_cons_succ, i64_w, i32_w, u8_w_]
           rfl
          refine done_ (done_of HT_.out (by kernel_rfl)) ?_
          try go_wp2
          have n0_ := Aside0.mk (IsS32.drew HI0.out)
          have n1_ := Aside0.mk (keep_drew HK.out)
          have n2_ := Aside0.mk (bw1 HB.out)
          clear HI0
          clear HK
          clear HB
          have HI0 := n0_
          have HK := n1_
          have HB := n2_
          clear n0_ n1_ n2_
          have p13 : 0 ≤ ((ji10) : Int) := of_decide_eq_true (by first | (with_reducible assumption) | assumption)
          have q13 : (ji10) < (a1.size : Int) := of_decide_eq_true (by first | (with_reducible assumption) | assumption)
          have hx13 := bt_at a1 (ji10)
          replace p13 := eq_true p13
          replace q13 := eq_true q13
          have p14 : 0 ≤ (x6_1 : Int) := of_decide_eq_true (by first | (with_reducible assumption) | assumption)
          have q14 : x6_1 < (a1.size : Int) := of_decide_eq_true (by first | (with_reducible assumption) | assumption)
          have hx14 := bt_at a1 x6_1
          replace p14 := eq_true p14
          replace q14 := eq_true q14
          refine start_ (n := 18) (S := fun w' => w'.cell? ⟨g, 26, none⟩ = some (.int .i8 G26) ∧ w'.cell? ⟨g, 27, none⟩ = some (.int .i8 G27)) (ds := []) #[false, false, false, false, false, false, false, false, false, false, false, false, false, false, false, false, false, false] (by kernel_rfl) rfl rfl ⟨(by obtain ⟨_, _, hg_, _, _⟩ := HI0.out; exact (blk_cell hg_ 26).trans rfl), (by obtain ⟨_, _, hg_, _, _⟩ := HI0.out; exact (blk_cell hg_ 27).trans rfl)⟩ (fun hHeld => ?_); refine with_tabW spec_l01Wide.tab7 spec_l01Wide.bits7 (fun HT_ HW_ => ?_)
          generalize w16.drew = w18 at HI0 HK HB hHeld ⊢
          refine pure_ (i := 0) (N := some 27) (v := ?_) (a' := ?_) #[true, false, false, false, false, false, false, false, false, false, false, false, false, false, false, false, false, false] rfl rfl (any_of HT_.out (by kernel_rfl)) (fun _ _ _ h => h) (Or.inl ⟨by rfl, ?_⟩) ?_ ?_
          rotate_left
          ·intro w'
           go_simp
           with_reducible rfl
          rotate_left
          ·simp only [Act.put, List.setIfInBounds_toArray, List.set_cons_zero, List.set_cons_succ, i64_w, i32_w, u8_w_]
           rfl
          refine pure_ (i := 1) (N := some 28) (v := ?_) (a' := ?_) #[true, true, false, false, false, false, false, false, false, false, false, false, false, false, false, false, false, false] rfl rfl (any_of HT_.out (by kernel_rfl)) (fun _ _ _ h => h) (Or.inl ⟨by rfl, ?_⟩) ?_ ?_
          rotate_left
          ·intro w'
           go_simp
           with_reducible rfl
          rotate_left
          ·simp only [Act.put, List.setIfInBounds_toArray, List.set_cons_zero, List.set_cons_succ, i64_w, i32_w, u8_w_]
           rfl
          refine pure_ (i := 2) (N := some 29) (v := ?_) (a' := ?_) #[true, true, true, false, false, false, false, false, false, false, false, false, false, false, false, false, false, false] rfl rfl (any_of HT_.out (by kernel_rfl)) (fun _ _ _ h => h) (Or.inl ⟨by rfl, ?_⟩) ?_ ?_
          rotate_left
          ·intro w'
           go_simp
           with_reducible rfl
          rotate_left
          ·simp only [Act.put, List.setIfInBounds_toArray, List.set_cons_zero, List.set_cons_succ, i64_w, i32_w, u8_w_]
           rfl
          refine pure_ (i := 3) (N := some 30) (v := ?_) (a' := ?_) #[true, true, true, true, false, false, false, false, false, false, false, false, false, false, false, false, false, false] rfl rfl (any_of HT_.out (by kernel_rfl)) (fun _ _ _ h => h) (Or.inl ⟨by rfl, ?_⟩) ?_ ?_
          rotate_left
          ·intro w'
           go_simp
           with_reducible rfl
          rotate_left
          ·simp only [Act.put, List.setIfInBounds_toArray, List.set_cons_zero, List.set_cons_succ, i64_w, i32_w, u8_w_]
           rfl
          refine pure_ (i := 6) (N := some 33) (v := ?_) (a' := ?_) #[true, true, true, true, false, false, true, false, false, false, false, false, false, false, false, false, false, false] rfl rfl (any_of HT_.out (by kernel_rfl)) (fun _ _ _ h => h) (Or.inl ⟨by rfl, ?_⟩) ?_ ?_
          rotate_left
          ·intro w'
           go_simp
           with_reducible rfl
          rotate_left
          ·simp only [Act.put, List.setIfInBounds_toArray, List.set_cons_zero, List.set_cons_succ, i64_w, i32_w, u8_w_]
           rfl
          refine pure_ (i := 7) (N := some 34) (v := ?_) (a' := ?_) #[true, true, true, true, false, false, true, true, false, false, false, false, false, false, false, false, false, false] rfl rfl (any_of HT_.out (by kernel_rfl)) (fun _ _ _ h => h) (Or.inl ⟨by rfl, ?_⟩) ?_ ?_
          rotate_left
          ·intro w'
           go_simp
           with_reducible rfl
          rotate_left
          ·simp only [Act.put, List.setIfInBounds_toArray, List.set_cons_zero, List.set_cons_succ, i64_w, i32_w, u8_w_]
           rfl
          refine pure_ (i := 8) (N := some 35) (v := ?_) (a' := ?_) #[true, true, true, true, false, false, true, true, true, false, false, false, false, false, false, false, false, false] rfl rfl (any_of HT_.out (by kernel_rfl)) (fun _ _ _ h => h) (Or.inl ⟨by rfl, ?_⟩) ?_ ?_
          rotate_left
          ·intro w'
           go_simp
           with_reducible rfl
          rotate_left
          ·simp only [Act.put, List.setIfInBounds_toArray, List.set_cons_zero, List.set_cons_succ, i64_w, i32_w, u8_w_]
           rfl
          refine pure_ (i := 9) (N := some 36) (v := ?_) (a' := ?_) #[true, true, true, true, false, false, true, true, true, true, false, false, false, false, false, false, false, false] rfl rfl (any_of HT_.out (by kernel_rfl)) (fun _ _ _ h => h) (Or.inl ⟨by rfl, ?_⟩) ?_ ?_
          rotate_left
          ·intro w'
           go_simp
           with_reducible rfl
          rotate_left
          ·simp only [Act.put, List.setIfInBounds_toArray, List.set_cons_zero, List.set_cons_succ, i64_w, i32_w, u8_w_]
           rfl
          refine pure_ (i := 11) (N := some 38) (v := ?_) (a' := ?_) #[true, true, true, true, false, false, true, true, true, true, false, true, false, false, false, false, false, false] rfl rfl (any_of HT_.out (by kernel_rfl)) (fun _ _ _ h => h) (Or.inl ⟨by rfl, ?_⟩) ?_ ?_
          rotate_left
          ·intro w'
           go_simp
           with_reducible rfl
          rotate_left
          ·simp only [Act.put, List.setIfInBounds_toArray, List.set_cons_zero, List.set_cons_succ, i64_w, i32_w, u8_w_]
           rfl
          refine pure_ (i := 12) (N := some 39) (v := ?_) (a' := ?_) #[true, true, true, true, false, false, true, true, true, true, false, true, true, false, false, false, false, false] rfl rfl (any_of HT_.out (by kernel_rfl)) (fun _ _ _ h => h) (Or.inl ⟨by rfl, ?_⟩) ?_ ?_
          rotate_left
          ·intro w'
           go_simp
           with_reducible rfl
          rotate_left
          ·simp only [Act.put, List.setIfInBounds_toArray, List.set_cons_zero, List.set_cons_succ, i64_w, i32_w, u8_w_]
           rfl
          refine take_ (i := 4) (N := some 31) (v := ?_) (a' := ?_) #[true, true, true, true, true, false, true, true, true, true, false, true, true, false, false, false, false, false] rfl rfl (take_ofW HT_.out HW_.out (by kernel_rfl)) (fun _ _ _ h => h) (Or.inl ⟨by rfl, ?_⟩) hHeld ?_ ?_
          rotate_left
          ·rintro w' ⟨s0, s1⟩
           go_simp
           with_reducible rfl
          rotate_left
          ·simp only [Act.put, List.setIfInBounds_toArray, List.set_cons_zero, List.set_cons_succ, i64_w, i32_w, u8_w_]
           rfl
          refine pure_ (i := 5) (N := some 32) (v := ?_) (a' := ?_) #[true, true, true, true, true, true, true, true, true, true, false, true, true, false, false, false, false, false] rfl rfl (any_of HT_.out (by kernel_rfl)) (fun _ _ _ h => h) (Or.inl ⟨by rfl, ?_⟩) ?_ ?_
          rotate_left
          ·intro w'
           go_simp
           with_reducible rfl
          rotate_left
          ·simp only [Act.put, List.setIfInBounds_toArray, List.set_cons_zero, List.set_cons_succ, i64_w, i32_w, u8_w_]
           rfl
          refine take_ (i := 10) (N := some 37) (v := ?_) (a' := ?_) #[true, true, true, true, true, true, true, true, true, true, true, true, true, false, false, false, false, false] rfl rfl (take_ofW HT_.out HW_.out (by kernel_rfl)) (fun _ _ _ h => h) (Or.inl ⟨by rfl, ?_⟩) hHeld ?_ ?_
          rotate_left
          ·rintro w' ⟨s0, s1⟩
           go_simp
           with_reducible rfl
          rotate_left
          ·simp only [Act.put, List.setIfInBounds_toArray, List.set_cons_zero, List.set_cons_succ, i64_w, i32_w, u8_w_]
           rfl
          refine take_ (i := 13) (N := some 40) (v := ?_) (a' := ?_) #[true, true, true, true, true, true, true, true, true, true, true, true, true, true, false, false, false, false] rfl rfl (take_ofW HT_.out HW_.out (by kernel_rfl)) (fun _ _ _ h => h) (Or.inl ⟨by rfl, ?_⟩) hHeld ?_ ?_
          rotate_left
          ·rintro w' ⟨s0, s1⟩
           go_simp
           with_reducible rfl
          rotate_left
          ·simp only [Act.put, List.setIfInBounds_toArray, List.set_cons_zero, List.set_cons_succ, i64_w, i32_w, u8_w_]
           rfl
          refine one_ (i := 14) (N := some 41) #[true, true, true, true, true, true, true, true, true, true, true, true, true, true, true, false, false, false] rfl rfl (one_of HT_.out (by kernel_rfl)) (by decide) (fun K hK => ?_)
          refine goes_ Tryd.func119 (by kernel_rfl) rfl #[.pointer (some ⟨g, 0, none⟩), .int .u8 (bt a1 (ji10)), .int .u8 (bt a1 x6_1)] (by rfl) rfl rfl (by (try simp only [List.map_toArray, List.map_cons, List.map_nil]); first | done | (simp only [hji10]; rfl) | rfl | (simp only [List.length_drop, List.length_take]; rfl)) ?_
          with_reducible refine (spec_l01By.calls k1 g G0 G1 G2 G3 G4 G5 G6 G7 G8 G9 G10 G11 G12 G13 G14 G15 G16 G17 G18 G19 G20 G21 G22 G23 G24 G25 G26 G27 G28 (bt a1 (ji10)) (bt a1 x6_1) t111 w0 _ ?side1 ?side2 A15.out).mono ?_
          (case side1 => repeat (first | (with_reducible first | exact HI0.out | apply IsS32.alloc | apply IsS32.drewN | apply IsS32.drew) | exact HI0.out))
          (case side2 => repeat (first | (with_reducible first | exact HB.out | apply bwA | apply pwN | apply bw1 | refine below_set ?_ (IsS32.ge HI0.out)) | exact HB.out))
          rintro e w19 ⟨rfl, hi, hb, hk⟩
          refine ⟨_, rfl, ?_⟩
          have n0_ := Aside0.mk (KeepBut.trans (by repeat (first | (with_reducible first | exact HK.out | apply KeepBut.set_ | apply keep_drewN | apply keep_drew | apply keep_alloc) | exact HK.out)) hk (.inl rfl))
          have n1_ := Aside0.mk (hb)
          have n2_ := Aside0.mk (hi)
          clear HK
          clear HB
          clear HI0
          have HK := n0_
          have HB := n1_
          have HI0 := n2_
          clear n0_ n1_ n2_
          (try clear hb)
          (try clear hb2)
          (try clear hk)
          (try clear hi)
          refine hK.out _ _ ⟨(by obtain ⟨_, _, hg_, _, _⟩ := HI0.out; exact (blk_cell hg_ 26).trans rfl), (by obtain ⟨_, _, hg_, _, _⟩ := HI0.out; exact (blk_cell hg_ 27).trans rfl)⟩ (fun hHeld => ?_)
          clear hK K
          refine norm_ (a' := ?_) ?_ ?_
          rotate_left
          ·show Act.put _ (some 41) _ = _
           simp only [Act.put, List.setIfInBounds_toArray, List.set_cons_zero, List.set_cons_succ, i64_w, i32_w, u8_w_]
           rfl
          refine pure_ (i := 15) (N := some 42) (v := ?_) (a' := ?_) #[true, true, true, true, true, true, true, true, true, true, true, true, true, true, true, true, false, false] rfl rfl (any_of HT_.out (by kernel_rfl)) (fun _ _ _ h => h) (Or.inl ⟨by rfl, ?_⟩) ?_ ?_
          rotate_left
          ·intro w'
           go_simp
           with_reducible rfl
          rotate_left
          ·simp only [Act.put, List.setIfInBounds_toArray, List.set_cons_zero, List.set_cons_succ, i64_w, i32_w, u8_w_]
           rfl
          refine pure_ (i := 16) (N := some 43) (v := ?_) (a' := ?_) #[true, true, true, true, true, true, true, true, true, true, true, true, true, true, true, true, true, false] rfl rfl (any_of HT_.out (by kernel_rfl)) (fun _ _ _ h => h) (Or.inl ⟨by rfl, ?_⟩) ?_ ?_
          rotate_left
          ·intro w'
           go_simp
           with_reducible rfl
          rotate_left
          ·simp only [Act.put, List.setIfInBounds_toArray, List.set_cons_zero, List.set_cons_succ, i64_w, i32_w, u8_w_]
           rfl
          refine pure_ (i := 17) (N := some 5) (v := ?_) (a' := ?_) #[true, true, true, true, true, true, true, true, true, true, true, true, true, true, true, true, true, true] rfl rfl (any_of HT_.out (by kernel_rfl)) (fun _ _ _ h => h) (Or.inl ⟨by rfl, ?_⟩) ?_ ?_
          rotate_left
          ·intro w'
           go_simp
           with_reducible rfl
          rotate_left
          ·simp only [Act.put, List.setIfInBounds_toArray, List.set_cons_zero, List.set_cons_succ, i64_w, i32_w, u8_w_]
           rfl
          refine done_ (done_of HT_.out (by kernel_rfl)) ?_
          try go_wp2
          go_roundg k1
          case measure => have := HK1.out; omega
          case rel => exact ⟨(wrap64 ((wrap64 (x5_1 + (wrap64 (rd [G0, G1, G2, G3, G4, G5, G6, G7, G8, G9, G10, G11, G12, G13, G14, G15, G16, G17, G18, G19, G20, G21, G22, G23, G24, G25] (ji6))))) + (wrap64 ((wrap64 (G27)) + t111)))), (wrap64 (x6_1 + 1)), (by first | rfl | (simp; done) | (simp only [← hji6] <;> (first | rfl | simp)) | (simp [*]; done)), (by first | rfl | (simp; done) | (simp [*]; done)), H', ⟨by have := HK1.out; omega⟩, ⟨by repeat (first | (with_reducible first | exact HI0.out | apply IsS32.alloc | apply IsS32.drewN | apply IsS32.drew) | exact HI0.out)⟩, ⟨by repeat (first | (with_reducible first | exact HK.out | apply KeepBut.set_ | apply keep_drewN | apply keep_drew | apply keep_alloc) | exact HK.out)⟩, ⟨by repeat (first | (with_reducible first | exact HB.out | apply bwA | apply pwN | apply bw1 | refine below_set ?_ (IsS32.ge HI0.out)) | exact HB.out)⟩⟩
         ·rw [if_neg c12] at H
          exact absurd H (by simp)
        ·rw [if_neg c11] at H
         exact absurd H (by simp)
       ·rw [if_neg c9] at H
        have c9b0 : decide (0 < x6_1) = false := decide_eq_false c9
        clear c9
        have H' := Aside0.mk H
        clear H
        try go_wp2
        have n0_ := Aside0.mk (IsS32.drew HI0.out)
        have n1_ := Aside0.mk (keep_drew HK.out)
        have n2_ := Aside0.mk (bw1 HB.out)
        clear HI0
        clear HK
        clear HB
        have HI0 := n0_
        have HK := n1_
        have HB := n2_
        clear n0_ n1_ n2_
        have p5 : 0 ≤ (x6_1 : Int) := of_decide_eq_true (by first | (with_reducible assumption) | assumption)
        have q5 : x6_1 < (a1.size : Int) := of_decide_eq_true (by first | (with_reducible assumption) | assumption)
        have hx5 := bt_at a1 x6_1
        replace p5 := eq_true p5
        replace q5 := eq_true q5
        have hpx21 : 0 ≤ ((ji6) : Int) := (by first | omega | exact of_decide_eq_true (by first | (with_reducible assumption) | assumption))
        have hqx21 : ((ji6) : Int) < (26 : Int) := (by first | omega | exact of_decide_eq_true (by first | (with_reducible assumption) | assumption))
        refine start_ (n := 13) (S := fun w' => w'.cell? ⟨g, ((ji6) : Int).toNat, none⟩ = some (.int .i8 (rd [G0, G1, G2, G3, G4, G5, G6, G7, G8, G9, G10, G11, G12, G13, G14, G15, G16, G17, G18, G19, G20, G21, G22, G23, G24, G25] (ji6)))) (ds := []) #[false, false, false, false, false, false, false, false, false, false, false, false, false] (by kernel_rfl) rfl rfl ((by obtain ⟨A_28, c_28, hg_, _, _⟩ := HI0.out; exact (blk_cell hg_ _).trans (arrx0_ .i8 [G0, G1, G2, G3, G4, G5, G6, G7, G8, G9, G10, G11, G12, G13, G14, G15, G16, G17, G18, G19, G20, G21, G22, G23, G24, G25] [.int .i8 G26, .int .i8 G27, .slice A_28 G28.length c_28] ((ji6) : Int) hpx21 hqx21))) (fun hHeld => ?_); refine with_tabW spec_l01Wide.tab5 spec_l01Wide.bits5 (fun HT_ HW_ => ?_)
        generalize wr.drew = w20 at HI0 HK HB hHeld ⊢
        refine pure_ (i := 0) (N := some 13) (v := ?_) (a' := ?_) #[true, false, false, false, false, false, false, false, false, false, false, false, false] rfl rfl (any_of HT_.out (by kernel_rfl)) (fun _ _ _ h => h) (Or.inl ⟨by rfl, ?_⟩) ?_ ?_
        rotate_left
        ·intro w'
         go_simp
         with_reducible rfl
        rotate_left
        ·simp only [Act.put, List.setIfInBounds_toArray, List.set_cons_zero, List.set_cons_succ, i64_w, i32_w, u8_w_]
         rfl
        refine pure_ (i := 1) (N := some 14) (v := ?_) (a' := ?_) #[true, true, false, false, false, false, false, false, false, false, false, false, false] rfl rfl (any_of HT_.out (by kernel_rfl)) (fun _ _ _ h => h) (Or.inl ⟨by rfl, ?_⟩) ?_ ?_
        rotate_left
        ·intro w'
         go_simp
         with_reducible rfl
        rotate_left
        ·simp only [Act.put, List.setIfInBounds_toArray, List.set_cons_zero, List.set_cons_succ, i64_w, i32_w, u8_w_]
         rfl
        refine pure_ (i := 2) (N := some 15) (v := ?_) (a' := ?_) #[true, true, true, false, false, false, false, false, false, false, false, false, false] rfl rfl (any_of HT_.out (by kernel_rfl)) (fun _ _ _ h => h) (Or.inl ⟨by rfl, ?_⟩) ?_ ?_
        rotate_left
        ·intro w'
         go_simp
         with_reducible rfl
        rotate_left
        ·simp only [Act.put, List.setIfInBounds_toArray, List.set_cons_zero, List.set_cons_succ, i64_w, i32_w, u8_w_]
         rfl
        refine pure_ (i := 3) (N := some 16) (v := ?_) (a' := ?_) #[true, true, true, true, false, false, false, false, false, false, false, false, false] rfl rfl (any_of HT_.out (by kernel_rfl)) (fun _ _ _ h => h) (Or.inl ⟨by rfl, ?_⟩) ?_ ?_
        rotate_left
        ·intro w'
         go_simp
         with_reducible rfl
        rotate_left
        ·simp only [Act.put, List.setIfInBounds_toArray, List.set_cons_zero, List.set_cons_succ, i64_w, i32_w, u8_w_]
         rfl
        refine pure_ (i := 6) (N := some 19) (v := ?_) (a' := ?_) #[true, true, true, true, false, false, true, false, false, false, false, false, false] rfl rfl (any_of HT_.out (by kernel_rfl)) (fun _ _ _ h => h) (Or.inl ⟨by rfl, ?_⟩) ?_ ?_
        rotate_left
        ·intro w'
         go_simp
         with_reducible rfl
        rotate_left
        ·simp only [Act.put, List.setIfInBounds_toArray, List.set_cons_zero, List.set_cons_succ, i64_w, i32_w, u8_w_]
         rfl
        refine pure_ (i := 7) (N := some 20) (v := ?_) (a' := ?_) #[true, true, true, true, false, false, true, true, false, false, false, false, false] rfl rfl (any_of HT_.out (by kernel_rfl)) (fun _ _ _ h => h) (Or.inl ⟨by rfl, ?_⟩) ?_ ?_
        rotate_left
        ·intro w'
         go_simp
         with_reducible rfl
        rotate_left
        ·simp only [Act.put, List.setIfInBounds_toArray, List.set_cons_zero, List.set_cons_succ, i64_w, i32_w, u8_w_]
         rfl
        refine take_ (i := 4) (N := some 17) (v := ?_) (a' := ?_) #[true, true, true, true, true, false, true, true, false, false, false, false, false] rfl rfl (take_ofW HT_.out HW_.out (by kernel_rfl)) (fun _ _ _ h => h) (Or.inl ⟨by rfl, ?_⟩) hHeld ?_ ?_
        rotate_left
        ·intro w' s0
         go_simp
         with_reducible rfl
        rotate_left
        ·simp only [Act.put, List.setIfInBounds_toArray, List.set_cons_zero, List.set_cons_succ, i64_w, i32_w, u8_w_]
         rfl
        refine pure_ (i := 5) (N := some 18) (v := ?_) (a' := ?_) #[true, true, true, true, true, true, true, true, false, false, false, false, false] rfl rfl (any_of HT_.out (by kernel_rfl)) (fun _ _ _ h => h) (Or.inl ⟨by rfl, ?_⟩) ?_ ?_
        rotate_left
        ·intro w'
         go_simp
         with_reducible rfl
        rotate_left
        ·simp only [Act.put, List.setIfInBounds_toArray, List.set_cons_zero, List.set_cons_succ, i64_w, i32_w, u8_w_]
         rfl
        refine pure_ (i := 8) (N := some 21) (v := ?_) (a' := ?_) #[true, true, true, true, true, true, true, true, true, false, false, false, false] rfl rfl (any_of HT_.out (by kernel_rfl)) (fun _ _ _ h => h) (Or.inl ⟨by rfl, ?_⟩) ?_ ?_
        rotate_left
        ·intro w'
         go_simp
         with_reducible rfl
        rotate_left
        ·simp only [Act.put, List.setIfInBounds_toArray, List.set_cons_zero, List.set_cons_succ, i64_w, i32_w, u8_w_]
         rfl
        refine take_ (i := 9) (N := some 22) (v := ?_) (a' := ?_) #[true, true, true, true, true, true, true, true, true, true, false, false, false] rfl rfl (take_ofW HT_.out HW_.out (by kernel_rfl)) (fun _ _ _ h => h) (Or.inl ⟨by rfl, ?_⟩) hHeld ?_ ?_
        rotate_left
        ·intro w' s0
         go_simp
         with_reducible rfl
        rotate_left
        ·simp only [Act.put, List.setIfInBounds_toArray, List.set_cons_zero, List.set_cons_succ, i64_w, i32_w, u8_w_]
         rfl
        refine pure_ (i := 10) (N := some 23) (v := ?_) (a' := ?_) #[true, true, true, true, true, true, true, true, true, true, true, false, false] rfl rfl (any_of HT_.out (by kernel_rfl)) (fun _ _ _ h => h) (Or.inl ⟨by rfl, ?_⟩) ?_ ?_
        rotate_left
        ·intro w'
         go_simp
         with_reducible rfl
        rotate_left
        ·simp only [Act.put, List.setIfInBounds_toArray, List.set_cons_zero, List.set_cons_succ, i64_w, i32_w, u8_w_]
         rfl
        refine pure_ (i := 11) (N := some 24) (v := ?_) (a' := ?_) #[true, true, true, true, true, true, true, true, true, true, true, true, false] rfl rfl (any_of HT_.out (by kernel_rfl)) (fun _ _ _ h => h) (Or.inl ⟨by rfl, ?_⟩) ?_ ?_
        rotate_left
        ·intro w'
         go_simp
         with_reducible rfl
        rotate_left
        ·simp only [Act.put, List.setIfInBounds_toArray, List.set_cons_zero, List.set_cons_succ, i64_w, i32_w, u8_w_]
         rfl
        refine pure_ (i := 12) (N := some 5) (v := ?_) (a' := ?_) #[true, true, true, true, true, true, true, true, true, true, true, true, true] rfl rfl (any_of HT_.out (by kernel_rfl)) (fun _ _ _ h => h) (Or.inl ⟨by rfl, ?_⟩) ?_ ?_
        rotate_left
        ·intro w'
         go_simp
         with_reducible rfl
        rotate_left
        ·simp only [Act.put, List.setIfInBounds_toArray, List.set_cons_zero, List.set_cons_succ, i64_w, i32_w, u8_w_]
         rfl
        refine done_ (done_of HT_.out (by kernel_rfl)) ?_
        try go_wp2
        go_roundg k1
        case measure => have := HK1.out; omega
        case rel => exact ⟨(wrap64 (x5_1 + (wrap64 (rd [G0, G1, G2, G3, G4, G5, G6, G7, G8, G9, G10, G11, G12, G13, G14, G15, G16, G17, G18, G19, G20, G21, G22, G23, G24, G25] (ji6))))), (wrap64 (x6_1 + 1)), (by first | rfl | (simp; done) | (simp only [← hji6] <;> (first | rfl | simp)) | (simp [*]; done)), (by first | rfl | (simp; done) | (simp [*]; done)), H', ⟨by have := HK1.out; omega⟩, ⟨by repeat (first | (with_reducible first | exact HI0.out | apply IsS32.alloc | apply IsS32.drewN | apply IsS32.drew) | exact HI0.out)⟩, ⟨by repeat (first | (with_reducible first | exact HK.out | apply KeepBut.set_ | apply keep_drewN | apply keep_drew | apply keep_alloc) | exact HK.out)⟩, ⟨by repeat (first | (with_reducible first | exact HB.out | apply bwA | apply pwN | apply bw1 | refine below_set ?_ (IsS32.ge HI0.out)) | exact HB.out)⟩⟩
      ·rw [if_neg c8] at H
       exact absurd H (by simp)
     ·rw [if_neg c7] at H
      exact absurd H (by simp)
    ·rw [if_neg c4] at H
     exact absurd H (by simp)
   ·rw [if_neg c3] at H
    have c3b0 : decide (x6_1 < (a1.size : Int)) = false := decide_eq_false c3
    clear c3
    obtain rfl := Option.some.inj H
    go_wp2
    go_ret
    exact ⟨by first | rfl | (simp [errW_none, errW_some] <;> rfl) | (simp [*, errW_none, errW_some] <;> rfl), by repeat (first | (with_reducible first | exact HI0.out | apply IsS32.alloc | apply IsS32.drewN | apply IsS32.drew) | exact HI0.out), by repeat (first | (with_reducible first | exact HB.out | apply bwA | apply pwN | apply bw1 | refine below_set ?_ (IsS32.ge HI0.out)) | exact HB.out), by repeat (first | (with_reducible first | exact HK.out | apply KeepBut.set_ | apply keep_drewN | apply keep_drew | apply keep_alloc) | exact HK.out)⟩
end Go.Proofs.YticjkfacdmmopaaDoor.Q
namespace Go.Proofs.YticjkfacdmmopaaDoor.Ext
end Go.Proofs.YticjkfacdmmopaaDoor.Ext
namespace Go.Proofs.YticjkfacdmmopaaDoor.Q
open Go.Proofs.YticjkfacdmmopaaDoor.Ext
open Go.RowKit Go.Proofs.YticjkfacdmmopaaDoorW.PrintWords Go.Proofs.YticjkfacdmmopaaDoorW.PrintLast Go.Proofs.YticjkfacdmmopaaDoorW.PrintMore
attribute [local go_sem] max2_int min2_int max_two min_two max_three min_three max_four min_four
set_option linter.unusedVariables false
set_option linter.unusedSimpArgs false
def spec_l01Line.l0 : Nat → List ByteArray → Int → Int → Int → Int → Int → Int → Int → Int → Int → Int → Int → Int → Int → Int → Int → Int → Int → Int → Int → Int → Int → Int → Int → Int → Int → Int → Int → Int → Int → Int → List (S137) → Option (Int)
 | 0, _, _, _, _, _, _, _, _, _, _, _, _, _, _, _, _, _, _, _, _, _, _, _, _, _, _, _, _, _, _, _, _ => none
 | k + 1, x1, x5, x6, x1000, x1001, x1002, x1003, x1004, x1005, x1006, x1007, x1008, x1009, x1010, x1011, x1012, x1013, x1014, x1015, x1016, x1017, x1018, x1019, x1020, x1021, x1022, x1023, x1024, x1025, x1026, x1027, x1028 => if x6 < (x1.length : Int) then (if 0 ≤ x6 then ((spec_l01Wide.f k x1000 x1001 x1002 x1003 x1004 x1005 x1006 x1007 x1008 x1009 x1010 x1011 x1012 x1013 x1014 x1015 x1016 x1017 x1018 x1019 x1020 x1021 x1022 x1023 x1024 x1025 x1026 x1027 x1028 (rdOf ByteArray.empty x1 x6)).bind fun t287 => (if x6 > 0 then (spec_l01Line.l0 k x1 (wrap64 ((wrap64 (x5 + t287)) + (wrap64 (x1026)))) (wrap64 (x6 + 1)) x1000 x1001 x1002 x1003 x1004 x1005 x1006 x1007 x1008 x1009 x1010 x1011 x1012 x1013 x1014 x1015 x1016 x1017 x1018 x1019 x1020 x1021 x1022 x1023 x1024 x1025 x1026 x1027 x1028) else (spec_l01Line.l0 k x1 (wrap64 (x5 + t287)) (wrap64 (x6 + 1)) x1000 x1001 x1002 x1003 x1004 x1005 x1006 x1007 x1008 x1009 x1010 x1011 x1012 x1013 x1014 x1015 x1016 x1017 x1018 x1019 x1020 x1021 x1022 x1023 x1024 x1025 x1026 x1027 x1028))) else (none)) else (some x5)
def spec_l01Line.f (k : Nat) (G0 G1 G2 G3 G4 G5 G6 G7 G8 G9 G10 G11 G12 G13 G14 G15 G16 G17 G18 G19 G20 G21 G22 G23 G24 G25 G26 G27 : Int) (G28 : List (S137)) (l1 : List ByteArray) : Option (Int) := spec_l01Line.l0 k l1 0 0 G0 G1 G2 G3 G4 G5 G6 G7 G8 G9 G10 G11 G12 G13 G14 G15 G16 G17 G18 G19 G20 G21 G22 G23 G24 G25 G26 G27 G28
set_option maxHeartbeats 8000000 in
set_option maxRecDepth 100000 in
theorem spec_l01Line.calls (k : Nat) (g : Nat) (G0 G1 G2 G3 G4 G5 G6 G7 G8 G9 G10 G11 G12 G13 G14 G15 G16 G17 G18 G19 G20 G21 G22 G23 G24 G25 G26 G27 : Int) (G28 : List (S137)) (A1 : Option Addr) (c1 : Nat) (l1 : List ByteArray) (r : Int) (w0 w : World) (hI : IsS32 w0 w g G0 G1 G2 G3 G4 G5 G6 G7 G8 G9 G10 G11 G12 G13 G14 G15 G16 G17 G18 G19 G20 G21 G22 G23 G24 G25 G26 G27 G28) (hB : Below w0.heap.size w0 w) (hr1 : Kd.C Kd.string w A1 l1.length l1) (hc1 : l1.length ≤ c1) (hf1 : ∀ ad, A1 = some ad → 0 < l1.length → ad.block ≠ g) (h : spec_l01Line.f k G0 G1 G2 G3 G4 G5 G6 G7 G8 G9 G10 G11 G12 G13 G14 G15 G16 G17 G18 G19 G20 G21 G22 G23 G24 G25 G26 G27 G28 l1 = some r) :
  Calls Tryd.prog 74 #[.pointer (some ⟨g, 0, none⟩), .slice A1 l1.length c1] w fun e w' => e = .returned (.int .i64 r) ∧ IsS32 w0 w' g G0 G1 G2 G3 G4 G5 G6 G7 G8 G9 G10 G11 G12 G13 G14 G15 G16 G17 G18 G19 G20 G21 G22 G23 G24 G25 G26 G27 G28 ∧ Below w0.heap.size w0 w' ∧ KeepBut w w' g none := by
 have HR1 := Aside0.mk hr1
 have HC1 := Aside0.mk hc1
 clear hr1 hc1
 have HI0 := Aside0.mk hI
 have HK := Aside0.mk (KeepBut.refl w g none)
 have HL := Aside0.mk hB.size
 clear hI
 have HW0 := Aside0.mk hB.size
 have HB := Aside0.mk hB
 clear hB
 have H : (spec_l01Line.l0 k l1 0 0 G0 G1 G2 G3 G4 G5 G6 G7 G8 G9 G10 G11 G12 G13 G14 G15 G16 G17 G18 G19 G20 G21 G22 G23 G24 G25 G26 G27 G28) = some r := h
 clear h
 have H' := Aside0.mk H
 clear H
 go_enter Tryd.func74, Tryd.ntmps74
 go_wp2
 go_loopg [5, 6] k (fun kq v5 v6 w' => ∃ (x5_1 : Int) (x6_1 : Int), v5 = .int .i64 x5_1 ∧ v6 = .int .i64 x6_1 ∧ Aside0 (spec_l01Line.l0 kq l1 x5_1 x6_1 G0 G1 G2 G3 G4 G5 G6 G7 G8 G9 G10 G11 G12 G13 G14 G15 G16 G17 G18 G19 G20 G21 G22 G23 G24 G25 G26 G27 G28 = some r) ∧ Aside0 (kq ≤ k) ∧ Aside0 (IsS32 w0 w' g G0 G1 G2 G3 G4 G5 G6 G7 G8 G9 G10 G11 G12 G13 G14 G15 G16 G17 G18 G19 G20 G21 G22 G23 G24 G25 G26 G27 G28) ∧ Aside0 (KeepBut w w' g none) ∧ Aside0 (Below w0.heap.size w0 w'))
 case atStart => exact ⟨(0), (0), (by first | rfl | (simp; done) | (simp [*]; done)), (by first | rfl | (simp; done) | (simp [*]; done)), H', ⟨Nat.le_refl _⟩, ⟨by repeat (first | (with_reducible first | exact HI0.out | apply IsS32.alloc | apply IsS32.drewN | apply IsS32.drew) | exact HI0.out)⟩, ⟨by repeat (first | (with_reducible first | exact HK.out | apply KeepBut.set_ | apply keep_drewN | apply keep_drew | apply keep_alloc) | exact HK.out)⟩, ⟨by repeat (first | (with_reducible first | exact HB.out | apply bwA | apply pwN | apply bw1 | refine below_set ?_ (IsS32.ge HI0.out)) | exact HB.out)⟩⟩
 case round =>
  clear H'
  try clear c1
  try clear p2
  obtain ⟨x5_1, x6_1, rfl, rfl, HA, HK1, HI0, HK, HB⟩ := hrel
  cases gk with
  | zero => exact absurd HA.out (by simp [spec_l01Line.l0])
  | succ k1 =>
   have H := HA.out
   clear HA
   simp only [spec_l01Line.l0] at H
   by_cases c3 : x6_1 < (l1.length : Int)
   ·rw [if_pos c3] at H
    have c3b0 : decide (x6_1 < (l1.length : Int)) = true := decide_eq_true c3
    clear c3
    by_cases c4 : 0 ≤ x6_1
    ·rw [if_pos c4] at H
     have c4b0 : decide (0 ≤ x6_1) = true := decide_eq_true c4
     clear c4
     replace H := Option.bind_eq_some_iff.mp H
     obtain ⟨t287, A50, H⟩ := H
     (try dsimp only at H)
     have A5 := Aside0.mk A50
     clear A50
     by_cases c6 : x6_1 > 0
     ·rw [if_pos c6] at H
      have c6b0 : decide (0 < x6_1) = true := decide_eq_true c6
      clear c6
      have H' := Aside0.mk H
      clear H
      have p286 : 0 ≤ (x6_1 : Int) := of_decide_eq_true (by first | (with_reducible assumption) | assumption)
      have q286 : x6_1 < (l1.length : Int) := of_decide_eq_true (by first | (with_reducible assumption) | assumption)
      obtain ⟨ad286, e286, hx286_0⟩ := Kd.at_string HR1.out x6_1 p286 q286
      cases e286
      replace hx286_0 := keep_cell HK.out hx286_0 (by first | (rw [add_block]; exact hf1 _ rfl (by omega)) | exact hf1 _ rfl (by omega) | exact hf1 ad286 rfl (by omega))
      replace p286 := eq_true p286
      replace q286 := eq_true q286
      go_wp2_with (first | ((with_reducible refine gate_callee (f := 65) rfl ?_); refine goesL_ (some 19) rfl rfl Tryd.func65 (by kernel_rfl) rfl #[.pointer (some ⟨g, 0, none⟩), .string (rdOf ByteArray.empty l1 x6_1)] rfl (by (try simp only [List.map_toArray, List.map_cons, List.map_nil]); first | done | rfl | (simp only [List.length_drop, List.length_take]; rfl)) ?_; (with_reducible refine (spec_l01Wide.calls k1 g G0 G1 G2 G3 G4 G5 G6 G7 G8 G9 G10 G11 G12 G13 G14 G15 G16 G17 G18 G19 G20 G21 G22 G23 G24 G25 G26 G27 G28 (rdOf ByteArray.empty l1 x6_1) t287 w0 _ ?side1 ?side2 A5.out).mono ?_); (case side1 => repeat (first | (with_reducible first | exact HI0.out | apply IsS32.alloc | apply IsS32.drewN | apply IsS32.drew) | exact HI0.out)); (case side2 => repeat (first | (with_reducible first | exact HB.out | apply bwA | apply pwN | apply bw1 | refine below_set ?_ (IsS32.ge HI0.out)) | exact HB.out)); rintro e w7 ⟨rfl, hi, hb, hk⟩; refine ⟨_, rfl, ?_⟩; have n0_ := Aside0.mk (KeepBut.trans (by repeat (first | (with_reducible first | exact HK.out | apply KeepBut.set_ | apply keep_drewN | apply keep_drew | apply keep_alloc) | exact HK.out)) hk (.inl rfl)); have n1_ := Aside0.mk (hb); have n2_ := Aside0.mk (hi); clear HK; clear HB; clear HI0; have HK := n0_; have HB := n1_; have HI0 := n2_; clear n0_ n1_ n2_; (try clear hb); (try clear hb2); (try clear hk); (try clear hi); obtain ⟨ASz8_28, cSz8_28, HGz8, hgz8, HSz8_28⟩ := HI0.out; have hcz8_26 := cellS32_26 HGz8; have hcz8_27 := cellS32_27 HGz8; have hcz8_28 := cellS32_28 HGz8; clear HGz8 hgz8))
      go_roundg k1
      case measure => have := HK1.out; omega
      case rel => exact ⟨(wrap64 ((wrap64 (x5_1 + t287)) + (wrap64 (G26)))), (wrap64 (x6_1 + 1)), (by first | rfl | (simp; done) | (simp [*]; done)), (by first | rfl | (simp; done) | (simp [*]; done)), H', ⟨by have := HK1.out; omega⟩, ⟨by repeat (first | (with_reducible first | exact HI0.out | apply IsS32.alloc | apply IsS32.drewN | apply IsS32.drew) | exact HI0.out)⟩, ⟨by repeat (first | (with_reducible first | exact HK.out | apply KeepBut.set_ | apply keep_drewN | apply keep_drew | apply keep_alloc) | exact HK.out)⟩, ⟨by repeat (first | (with_reducible first | exact HB.out | apply bwA | apply pwN | apply bw1 | refine below_set ?_ (IsS32.ge HI0.out)) | exact HB.out)⟩⟩
     ·rw [if_neg c6] at H
      have c6b0 : decide (0 < x6_1) = false := decide_eq_false c6
      clear c6
      have H' := Aside0.mk H
      clear H
      have p286 : 0 ≤ (x6_1 : Int) := of_decide_eq_true (by first | (with_reducible assumption) | assumption)
      have q286 : x6_1 < (l1.length : Int) := of_decide_eq_true (by first | (with_reducible assumption) | assumption)
      obtain ⟨ad286, e286, hx286_0⟩ := Kd.at_string HR1.out x6_1 p286 q286
      cases e286
      replace hx286_0 := keep_cell HK.out hx286_0 (by first | (rw [add_block]; exact hf1 _ rfl (by omega)) | exact hf1 _ rfl (by omega) | exact hf1 ad286 rfl (by omega))
      replace p286 := eq_true p286
      replace q286 := eq_true q286
      go_wp2_with (first | ((with_reducible refine gate_callee (f := 65) rfl ?_); refine goesL_ (some 19) rfl rfl Tryd.func65 (by kernel_rfl) rfl #[.pointer (some ⟨g, 0, none⟩), .string (rdOf ByteArray.empty l1 x6_1)] rfl (by (try simp only [List.map_toArray, List.map_cons, List.map_nil]); first | done | rfl | (simp only [List.length_drop, List.length_take]; rfl)) ?_; (with_reducible refine (spec_l01Wide.calls k1 g G0 G1 G2 G3 G4 G5 G6 G7 G8 G9 G10 G11 G12 G13 G14 G15 G16 G17 G18 G19 G20 G21 G22 G23 G24 G25 G26 G27 G28 (rdOf ByteArray.empty l1 x6_1) t287 w0 _ ?side1 ?side2 A5.out).mono ?_); (case side1 => repeat (first | (with_reducible first | exact HI0.out | apply IsS32.alloc | apply IsS32.drewN | apply IsS32.drew) | exact HI0.out)); (case side2 => repeat (first | (with_reducible first | exact HB.out | apply bwA | apply pwN | apply bw1 | refine below_set ?_ (IsS32.ge HI0.out)) | exact HB.out)); rintro e w9 ⟨rfl, hi, hb, hk⟩; refine ⟨_, rfl, ?_⟩; have n0_ := Aside0.mk (KeepBut.trans (by repeat (first | (with_reducible first | exact HK.out | apply KeepBut.set_ | apply keep_drewN | apply keep_drew | apply keep_alloc) | exact HK.out)) hk (.inl rfl)); have n1_ := Aside0.mk (hb); have n2_ := Aside0.mk (hi); clear HK; clear HB; clear HI0; have HK := n0_; have HB := n1_; have HI0 := n2_; clear n0_ n1_ n2_; (try clear hb); (try clear hb2); (try clear hk); (try clear hi)))
      go_roundg k1
      case measure => have := HK1.out; omega
      case rel => exact ⟨(wrap64 (x5_1 + t287)), (wrap64 (x6_1 + 1)), (by first | rfl | (simp; done) | (simp [*]; done)), (by first | rfl | (simp; done) | (simp [*]; done)), H', ⟨by have := HK1.out; omega⟩, ⟨by repeat (first | (with_reducible first | exact HI0.out | apply IsS32.alloc | apply IsS32.drewN | apply IsS32.drew) | exact HI0.out)⟩, ⟨by repeat (first | (with_reducible first | exact HK.out | apply KeepBut.set_ | apply keep_drewN | apply keep_drew | apply keep_alloc) | exact HK.out)⟩, ⟨by repeat (first | (with_reducible first | exact HB.out | apply bwA | apply pwN | apply bw1 | refine below_set ?_ (IsS32.ge HI0.out)) | exact HB.out)⟩⟩
    ·rw [if_neg c4] at H
     exact absurd H (by simp)
   ·rw [if_neg c3] at H
    have c3b0 : decide (x6_1 < (l1.length : Int)) = false := decide_eq_false c3
    clear c3
    obtain rfl := Option.some.inj H
    go_wp2
    go_ret
    exact ⟨by first | rfl | (simp [errW_none, errW_some] <;> rfl) | (simp [*, errW_none, errW_some] <;> rfl), by repeat (first | (with_reducible first | exact HI0.out | apply IsS32.alloc | apply IsS32.drewN | apply IsS32.drew) | exact HI0.out), by repeat (first | (with_reducible first | exact HB.out | apply bwA | apply pwN | apply bw1 | refine below_set ?_ (IsS32.ge HI0.out)) | exact HB.out), by repeat (first | (with_reducible first | exact HK.out | apply KeepBut.set_ | apply keep_drewN | apply keep_drew | apply keep_alloc) | exact HK.out)⟩
def spec_l01Split.l0 : Nat → ByteArray → Int → List ByteArray → Int → Int → Option (List ByteArray)
 | 0, _, _, _, _, _ => none
 | k + 1, x0, x1, x5, x6, x7 => if x7 < (x0.size : Int) then (if 0 ≤ x7 then (if (bt x0 x7) = x1 then (if 0 ≤ x6 then (if x6 ≤ x7 then (if x7 ≤ (x0.size : Int) then (if x5.length < 8796093022208 then (spec_l01Split.l0 k x0 x1 (x5 ++ [x0.extract (x6 : Int).toNat (x7 : Int).toNat]) (wrap64 (x7 + 1)) (wrap64 (x7 + 1))) else (none)) else (none)) else (none)) else (none)) else (spec_l01Split.l0 k x0 x1 x5 x6 (wrap64 (x7 + 1)))) else (none)) else (if 0 ≤ x6 then (if x6 ≤ (x0.size : Int) then (if x5.length < 8796093022208 then (some (x5 ++ [x0.extract (x6 : Int).toNat x0.size])) else (none)) else (none)) else (none))
def spec_l01Split.f (k : Nat) (a0 : ByteArray) (a1 : Int) : Option (List ByteArray) := spec_l01Split.l0 k a0 a1 (([] : List ByteArray)) 0 0
set_option maxHeartbeats 8000000 in
set_option maxRecDepth 100000 in
theorem spec_l01Split.calls (k : Nat) (a0 : ByteArray) (a1 : Int) (r : List ByteArray) (w : World) (h : spec_l01Split.f k a0 a1 = some r) :
  Calls Tryd.prog 124 #[.string a0, .int .u8 a1] w fun e w' => ∃ v0_ : Value, e = .returned (v0_) ∧ Kd.R Kd.string 9 w' w.heap.size (fun _ => True) v0_ r ∧ Below w.heap.size w w' := by
 have HB := Aside0.mk (Below.refl w.heap.size w)
 have H : (spec_l01Split.l0 k a0 a1 (([] : List ByteArray)) 0 0) = some r := h
 clear h
 obtain ⟨y288, hy288⟩ : ∃ y_ : List ByteArray, y_ = (([] : List ByteArray)) := ⟨_, rfl⟩
 replace H : (spec_l01Split.l0 k a0 a1 y288 0 0) = some r := by first | (rw [hy288]; with_reducible exact H) | (have H2_ := (Option.bind_some _ _).symm.trans H; rw [hy288]; with_reducible exact H2_) | (have H2_ := (Option.bind_some _ _).symm.trans H; with_reducible exact H2_) | with_reducible exact H | (rw [hy288]; exact H) | exact H
 have Ny288 := Aside0.mk hy288
 clear hy288
 have H' := Aside0.mk H
 clear H
 go_enter Tryd.func124, Tryd.ntmps124
 go_wp2_with (first | ((with_reducible refine gate_dst (N := 8) rfl ?_); refine Kd.R_lit Kd.string _ 9 ?hg (N := 8) ?hd (xs := ([] : List ByteArray)) (inner := []) (ok := fun _ => True) (okp := fun _ => True) ?hr ?hp (fun _ hk => hk) trivial (Below.refl _ _) (Nat.le_refl _) (by simp) ?_; (case hd => rfl); (case hg => rfl); (case hr => first | (go_simp; done) | (go_simp; rfl)); (case hp => exact (Reps.none _ _)); intro v289 w3 ho4 hb hg_ hnew_; clear hg_ hnew_; (first | rw [← Ny288.out] at ho4 | (simp only [Int.reduceToNat] at ho4; rw [← Ny288.out] at ho4)); have n0_ := Aside0.mk (Kd.R_lower ho4 (below_size (by repeat (first | (with_reducible first | exact HB.out | apply bwA | apply pwN | apply bw1) | exact HB.out)))); have n1_ := Aside0.mk (below_step (by repeat (first | (with_reducible first | exact HB.out | apply bwA | apply pwN | apply bw1) | exact HB.out)) hb); clear HB; have HO290 := n0_; have HB := n1_; clear n0_ n1_; clear hb ho4))
 go_loopg [5, 6, 7] k (fun kq v5 v6 v7 w' => ∃ (x5_1 : List ByteArray) (x6_1 : Int) (x7_1 : Int), v6 = .int .i64 x6_1 ∧ v7 = .int .i64 x7_1 ∧ Aside0 (spec_l01Split.l0 kq a0 a1 x5_1 x6_1 x7_1 = some r) ∧ Aside0 (kq ≤ k) ∧ Aside0 (Kd.R Kd.string 9 w' w.heap.size (fun _ => True) v5 x5_1) ∧ Aside0 (Below w.heap.size w w'))
 case atStart => exact ⟨(y288), (0), (0), (by first | rfl | (simp; done) | (simp [*]; done)), (by first | rfl | (simp; done) | (simp [*]; done)), H', ⟨Nat.le_refl _⟩, ⟨by (with_reducible repeat (first | apply Kd.R_alloc | apply Kd.R_drewN | apply Kd.R_drew)); exact HO290.out⟩, ⟨by repeat (first | (with_reducible first | exact HB.out | apply bwA | apply pwN | apply bw1) | exact HB.out)⟩⟩
 case round =>
  clear H'
  try clear c1
  try clear p2
  obtain ⟨x5_1, x6_1, x7_1, rfl, rfl, HA, HK1, HO_5, HB⟩ := hrel
  cases gk with
  | zero => exact absurd HA.out (by simp [spec_l01Split.l0])
  | succ k1 =>
   have H := HA.out
   clear HA
   simp only [spec_l01Split.l0] at H
   by_cases c5 : x7_1 < (a0.size : Int)
   ·rw [if_pos c5] at H
    have c5b0 : decide (x7_1 < (a0.size : Int)) = true := decide_eq_true c5
    clear c5
    by_cases c6 : 0 ≤ x7_1
    ·rw [if_pos c6] at H
     have c6b0 : decide (0 ≤ x7_1) = true := decide_eq_true c6
     clear c6
     by_cases c8 : (bt a0 x7_1) = a1
     ·rw [if_pos c8] at H
      have c8b0 : ((bt a0 x7_1) == a1) = true := beq_iff_eq.mpr c8
      have c8b1 : ((bt a0 x7_1) != a1) = false := bne_eq_false_iff_eq.mpr c8
      clear c8
      by_cases c9 : 0 ≤ x6_1
      ·rw [if_pos c9] at H
       have c9b0 := eq_true c9
       have c9b1 : decide (0 ≤ x6_1) = true := decide_eq_true c9
       clear c9
       by_cases c10 : x6_1 ≤ x7_1
       ·rw [if_pos c10] at H
        have c10b0 := eq_true c10
        have c10b1 : decide (x6_1 ≤ x7_1) = true := decide_eq_true c10
        clear c10
        by_cases c11 : x7_1 ≤ (a0.size : Int)
        ·rw [if_pos c11] at H
         have c11b0 := eq_true c11
         have c11b1 : decide (x7_1 ≤ (a0.size : Int)) = true := decide_eq_true c11
         clear c11
         by_cases c12 : x5_1.length < 8796093022208
         ·rw [if_pos c12] at H
          have LMc12 := Aside0.mk c12
          clear c12
          obtain ⟨y291, hy291⟩ : ∃ y_ : List ByteArray, y_ = (x5_1 ++ [a0.extract (x6_1 : Int).toNat (x7_1 : Int).toNat]) := ⟨_, rfl⟩
          replace H : (spec_l01Split.l0 k1 a0 a1 y291 (wrap64 (x7_1 + 1)) (wrap64 (x7_1 + 1))) = some r := by first | (rw [hy291]; with_reducible exact H) | (have H2_ := (Option.bind_some _ _).symm.trans H; rw [hy291]; with_reducible exact H2_) | (have H2_ := (Option.bind_some _ _).symm.trans H; with_reducible exact H2_) | with_reducible exact H | (rw [hy291]; exact H) | exact H
          have Ny291 := Aside0.mk hy291
          clear hy291
          have H' := Aside0.mk H
          clear H
          have p7 : 0 ≤ (x7_1 : Int) := of_decide_eq_true (by first | (with_reducible assumption) | assumption)
          have q7 : x7_1 < (a0.size : Int) := of_decide_eq_true (by first | (with_reducible assumption) | assumption)
          have hx7 := bt_at a0 x7_1
          replace p7 := eq_true p7
          replace q7 := eq_true q7
          go_wp2_with (first | ((with_reducible refine gate_builtin (b := .append) (xs := #[.tmp 20, .tmp 25]) rfl ?_); at_builtin; refine Kd.R_append Kd.string (w0 := w) w.heap.size rfl (.tmp 20) (.tmp 25) 48 9 (.string ⟨#[]⟩) 16 rfl Tryd.underlying48 info9 rfl (by decide) (by omega) u5 x5_1 (a0.extract (x6_1 : Int).toNat (x7_1 : Int).toNat) [.string (a0.extract (x6_1 : Int).toNat (x7_1 : Int).toNat)] (fun _ => True) (fun _ => False) rfl rfl ?aP (fun _ hk => hk.elim) ?aF ?aO ?aB ?aS ?aL ?_; (case aP => exact rfl); (case aB => exact (by repeat (first | (with_reducible first | exact HB.out | apply bwA | apply pwN | apply bw1) | exact HB.out))); (case aF => exact (fun _ _ => trivial)); (case aO => exact (by (with_reducible repeat (first | apply Kd.R_alloc | apply Kd.R_drewN | apply Kd.R_drew)); exact HO_5.out)); (case aS => exact (below_size (by repeat (first | (with_reducible first | exact HB.out | apply bwA | apply pwN | apply bw1) | exact HB.out)))); (case aL => have := LMc12.out; omega); intro v292 w13 ho hb hg hat; rw [← Ny291.out] at ho; have n0_ := Aside0.mk (hb); have n1_ := Aside0.mk (ho); clear HB; clear HO_5; have HB := n0_; have HO293 := n1_; clear n0_ n1_; clear ho hb hg hat))
          go_roundg k1
          case measure => have := HK1.out; omega
          case rel => exact ⟨(y291), (wrap64 (x7_1 + 1)), (wrap64 (x7_1 + 1)), (by first | rfl | (simp; done) | (simp [*]; done)), (by first | rfl | (simp; done) | (simp [*]; done)), H', ⟨by have := HK1.out; omega⟩, ⟨by (with_reducible repeat (first | apply Kd.R_alloc | apply Kd.R_drewN | apply Kd.R_drew)); exact HO293.out⟩, ⟨by repeat (first | (with_reducible first | exact HB.out | apply bwA | apply pwN | apply bw1) | exact HB.out)⟩⟩
         ·rw [if_neg c12] at H
          exact absurd H (by simp)
        ·rw [if_neg c11] at H
         exact absurd H (by simp)
       ·rw [if_neg c10] at H
        exact absurd H (by simp)
      ·rw [if_neg c9] at H
       exact absurd H (by simp)
     ·rw [if_neg c8] at H
      have c8b0 : ((bt a0 x7_1) == a1) = false := beq_eq_false_iff_ne.mpr c8
      have c8b1 : ((bt a0 x7_1) != a1) = true := bne_iff_ne.mpr c8
      have H' := Aside0.mk H
      clear H
      have p7 : 0 ≤ (x7_1 : Int) := of_decide_eq_true (by first | (with_reducible assumption) | assumption)
      have q7 : x7_1 < (a0.size : Int) := of_decide_eq_true (by first | (with_reducible assumption) | assumption)
      have hx7 := bt_at a0 x7_1
      replace p7 := eq_true p7
      replace q7 := eq_true q7
      go_wp2
      go_roundg k1
      case measure => have := HK1.out; omega
      case rel => exact ⟨(x5_1), (x6_1), (wrap64 (x7_1 + 1)), (by first | rfl | (simp; done) | (simp [*]; done)), (by first | rfl | (simp; done) | (simp [*]; done)), H', ⟨by have := HK1.out; omega⟩, ⟨by (with_reducible repeat (first | apply Kd.R_alloc | apply Kd.R_drewN | apply Kd.R_drew)); exact HO_5.out⟩, ⟨by repeat (first | (with_reducible first | exact HB.out | apply bwA | apply pwN | apply bw1) | exact HB.out)⟩⟩
    ·rw [if_neg c6] at H
     exact absurd H (by simp)
   ·rw [if_neg c5] at H
    have c5b0 : decide (x7_1 < (a0.size : Int)) = false := decide_eq_false c5
    clear c5
    by_cases c14 : 0 ≤ x6_1
    ·rw [if_pos c14] at H
     have c14b0 := eq_true c14
     have c14b1 : decide (0 ≤ x6_1) = true := decide_eq_true c14
     clear c14
     by_cases c15 : x6_1 ≤ (a0.size : Int)
     ·rw [if_pos c15] at H
      have c15b0 := eq_true c15
      have c15b1 : decide (x6_1 ≤ (a0.size : Int)) = true := decide_eq_true c15
      clear c15
      by_cases c16 : x5_1.length < 8796093022208
      ·rw [if_pos c16] at H
       have LMc16 := Aside0.mk c16
       clear c16
       obtain ⟨y294, hy294⟩ : ∃ y_ : List ByteArray, y_ = (x5_1 ++ [a0.extract (x6_1 : Int).toNat a0.size]) := ⟨_, rfl⟩
       replace H : (some y294) = some r := by first | (rw [hy294]; with_reducible exact H) | (have H2_ := (Option.bind_some _ _).symm.trans H; rw [hy294]; with_reducible exact H2_) | (have H2_ := (Option.bind_some _ _).symm.trans H; with_reducible exact H2_) | with_reducible exact H | (rw [hy294]; exact H) | exact H
       have Ny294 := Aside0.mk hy294
       clear hy294
       obtain rfl := Option.some.inj H
       go_wp2_with (first | ((with_reducible refine gate_builtin (b := .append) (xs := #[.tmp 29, .tmp 33]) rfl ?_); at_builtin; refine Kd.R_append Kd.string (w0 := w) w.heap.size rfl (.tmp 29) (.tmp 33) 48 9 (.string ⟨#[]⟩) 16 rfl Tryd.underlying48 info9 rfl (by decide) (by omega) u5 x5_1 (a0.extract (x6_1 : Int).toNat a0.size) [.string (a0.extract (x6_1 : Int).toNat a0.size)] (fun _ => True) (fun _ => False) rfl rfl ?aP (fun _ hk => hk.elim) ?aF ?aO ?aB ?aS ?aL ?_; (case aP => exact rfl); (case aB => exact (by repeat (first | (with_reducible first | exact HB.out | apply bwA | apply pwN | apply bw1) | exact HB.out))); (case aF => exact (fun _ _ => trivial)); (case aO => exact (by (with_reducible repeat (first | apply Kd.R_alloc | apply Kd.R_drewN | apply Kd.R_drew)); exact HO_5.out)); (case aS => exact (below_size (by repeat (first | (with_reducible first | exact HB.out | apply bwA | apply pwN | apply bw1) | exact HB.out)))); (case aL => have := LMc16.out; omega); intro v295 w17 ho hb hg hat; rw [← Ny294.out] at ho; have n0_ := Aside0.mk (hb); have n1_ := Aside0.mk (ho); clear HB; clear HO_5; have HB := n0_; have HO296 := n1_; clear n0_ n1_; clear ho hb hg hat))
       go_ret
       exact ⟨_, by first | rfl | (simp [errW_none, errW_some] <;> rfl) | (simp [*, errW_none, errW_some] <;> rfl), by (with_reducible repeat (first | apply Kd.R_alloc | apply Kd.R_drewN | apply Kd.R_drew)); exact HO296.out, by repeat (first | (with_reducible first | exact HB.out | apply bwA | apply pwN | apply bw1) | exact HB.out)⟩
      ·rw [if_neg c16] at H
       exact absurd H (by simp)
     ·rw [if_neg c15] at H
      exact absurd H (by simp)
    ·rw [if_neg c14] at H
     exact absurd H (by simp)
def spec_l01Words.f (k : Nat) (a0 : ByteArray) : Option (List ByteArray) := if a0.toList = ([] : List UInt8) then (some (([] : List ByteArray))) else ((spec_l01Split.f k a0 32).bind fun t300 => (some t300))
set_option maxHeartbeats 8000000 in
set_option maxRecDepth 100000 in
theorem spec_l01Words.calls (k : Nat) (a0 : ByteArray) (r : List ByteArray) (w : World) (h : spec_l01Words.f k a0 = some r) :
  Calls Tryd.prog 75 #[.string a0] w fun e w' => ∃ v0_ : Value, e = .returned (v0_) ∧ Kd.R Kd.string 9 w' w.heap.size (fun _ => True) v0_ r ∧ Below w.heap.size w w' := by
 have HB := Aside0.mk (Below.refl w.heap.size w)
 have H : (if a0.toList = ([] : List UInt8) then (some (([] : List ByteArray))) else ((spec_l01Split.f k a0 32).bind fun t300 => (some t300))) = some r := h
 clear h
 by_cases c2 : a0.toList = ([] : List UInt8)
 ·rw [if_pos c2] at H
  have c2b0 : (a0.toList == ([] : List UInt8)) = true := beq_iff_eq.mpr c2
  have c2b1 : (a0.toList != ([] : List UInt8)) = false := bne_eq_false_iff_eq.mpr c2
  clear c2
  obtain ⟨y297, hy297⟩ : ∃ y_ : List ByteArray, y_ = (([] : List ByteArray)) := ⟨_, rfl⟩
  replace H : (some y297) = some r := by first | (rw [hy297]; with_reducible exact H) | (have H2_ := (Option.bind_some _ _).symm.trans H; rw [hy297]; with_reducible exact H2_) | (have H2_ := (Option.bind_some _ _).symm.trans H; with_reducible exact H2_) | with_reducible exact H | (rw [hy297]; exact H) | exact H
  have Ny297 := Aside0.mk hy297
  clear hy297
  obtain rfl := Option.some.inj H
  go_enter Tryd.func75, Tryd.ntmps75
  go_wp2_with (first | ((with_reducible refine gate_dst (N := 5) rfl ?_); refine Kd.R_lit Kd.string _ 9 ?hg (N := 5) ?hd (xs := ([] : List ByteArray)) (inner := []) (ok := fun _ => True) (okp := fun _ => True) ?hr ?hp (fun _ hk => hk) trivial (Below.refl _ _) (Nat.le_refl _) (by simp) ?_; (case hd => rfl); (case hg => rfl); (case hr => first | (go_simp; done) | (go_simp; rfl)); (case hp => exact (Reps.none _ _)); intro v298 w3 ho4 hb hg_ hnew_; clear hg_ hnew_; (first | rw [← Ny297.out] at ho4 | (simp only [Int.reduceToNat] at ho4; rw [← Ny297.out] at ho4)); have n0_ := Aside0.mk (Kd.R_lower ho4 (below_size (by repeat (first | (with_reducible first | exact HB.out | apply bwA | apply pwN | apply bw1) | exact HB.out)))); have n1_ := Aside0.mk (below_step (by repeat (first | (with_reducible first | exact HB.out | apply bwA | apply pwN | apply bw1) | exact HB.out)) hb); clear HB; have HO299 := n0_; have HB := n1_; clear n0_ n1_; clear hb ho4))
  go_ret
  exact ⟨_, by first | rfl | (simp [errW_none, errW_some] <;> rfl) | (simp [*, errW_none, errW_some] <;> rfl), by (with_reducible repeat (first | apply Kd.R_alloc | apply Kd.R_drewN | apply Kd.R_drew)); exact HO299.out, by repeat (first | (with_reducible first | exact HB.out | apply bwA | apply pwN | apply bw1) | exact HB.out)⟩
 ·rw [if_neg c2] at H
  have c2b0 : (a0.toList == ([] : List UInt8)) = false := beq_eq_false_iff_ne.mpr c2
  have c2b1 : (a0.toList != ([] : List UInt8)) = true := bne_iff_ne.mpr c2
  replace H := Option.bind_eq_some_iff.mp H
  obtain ⟨t300, A50, H⟩ := H
  replace H : (some t300) = some r := H
  have A5 := Aside0.mk A50
  clear A50
  obtain rfl := Option.some.inj H
  go_enter Tryd.func75, Tryd.ntmps75
  go_wp2_with (first | ((with_reducible refine gate_callee (f := 124) rfl ?_); refine goesL_ (some 7) rfl rfl Tryd.func124 (by kernel_rfl) rfl #[.string a0, .int .u8 32] rfl (by (try simp only [List.map_toArray, List.map_cons, List.map_nil]); first | done | rfl | (simp only [List.length_drop, List.length_take]; rfl)) ?_; (with_reducible refine (spec_l01Split.calls k a0 32 t300 _ A5.out).mono ?_); rintro e w6 ⟨v301, rfl, ho0, hb⟩; refine ⟨_, rfl, ?_⟩; have n0_ := Aside0.mk (Kd.R_lower ho0 (below_size (by repeat (first | (with_reducible first | exact HB.out | apply bwA | apply pwN | apply bw1) | exact HB.out)))); have n1_ := Aside0.mk (below_step (by repeat (first | (with_reducible first | exact HB.out | apply bwA | apply pwN | apply bw1) | exact HB.out)) hb); clear HB; have HO302 := n0_; have HB := n1_; clear n0_ n1_; (try clear hb); (try clear hb2); (try clear hk); (try clear hi); (try clear ho0)))
  go_ret
  exact ⟨_, by first | rfl | (simp [errW_none, errW_some] <;> rfl) | (simp [*, errW_none, errW_some] <;> rfl), by (with_reducible repeat (first | apply Kd.R_alloc | apply Kd.R_drewN | apply Kd.R_drew)); exact HO302.out, by repeat (first | (with_reducible first | exact HB.out | apply bwA | apply pwN | apply bw1) | exact HB.out)⟩
end Go.Proofs.YticjkfacdmmopaaDoor.Q
namespace Go.Proofs.YticjkfacdmmopaaDoor.Ext
end Go.Proofs.YticjkfacdmmopaaDoor.Ext
namespace Go.Proofs.YticjkfacdmmopaaDoor.Q
open Go.Proofs.YticjkfacdmmopaaDoor.Ext
open Go.RowKit Go.Proofs.YticjkfacdmmopaaDoorW.PrintWords Go.Proofs.YticjkfacdmmopaaDoorW.PrintLast Go.Proofs.YticjkfacdmmopaaDoorW.PrintMore
attribute [local go_sem] max2_int min2_int max_two min_two max_three min_three max_four min_four
set_option linter.unusedVariables false
set_option linter.unusedSimpArgs false
def impl_ValidFace.f (F0 F1 F2 F3 F4 F5 F6 F7 F8 F9 F10 F11 F12 F13 F14 F15 F16 F17 F18 F19 F20 F21 F22 F23 F24 F25 F26 F27 : Int) (l0_28 : List (S137)) : Option (Bool) := (impl_Face_isFace.f F0 F1 F2 F3 F4 F5 F6 F7 F8 F9 F10 F11 F12 F13 F14 F15 F16 F17 F18 F19 F20 F21 F22 F23 F24 F25 F26 F27 l0_28).bind fun t143 => (if t143 = true then (some (decide ((l0_28.length : Int) ≤ 12))) else (some false))
set_option maxHeartbeats 8000000 in
set_option maxRecDepth 100000 in
theorem impl_ValidFace.calls (F0 F1 F2 F3 F4 F5 F6 F7 F8 F9 F10 F11 F12 F13 F14 F15 F16 F17 F18 F19 F20 F21 F22 F23 F24 F25 F26 F27 : Int) (A0_28 : Option Addr) (c0_28 : Nat) (l0_28 : List (S137)) (r : Bool) (w : World) (hr0_28 : Kd.C k137 w A0_28 l0_28.length l0_28) (hc0_28 : l0_28.length ≤ c0_28) (h : impl_ValidFace.f F0 F1 F2 F3 F4 F5 F6 F7 F8 F9 F10 F11 F12 F13 F14 F15 F16 F17 F18 F19 F20 F21 F22 F23 F24 F25 F26 F27 l0_28 = some r) :
  Calls Tryd.prog 68 #[.agg #[.int .i8 F0, .int .i8 F1, .int .i8 F2, .int .i8 F3, .int .i8 F4, .int .i8 F5, .int .i8 F6, .int .i8 F7, .int .i8 F8, .int .i8 F9, .int .i8 F10, .int .i8 F11, .int .i8 F12, .int .i8 F13, .int .i8 F14, .int .i8 F15, .int .i8 F16, .int .i8 F17, .int .i8 F18, .int .i8 F19, .int .i8 F20, .int .i8 F21, .int .i8 F22, .int .i8 F23, .int .i8 F24, .int .i8 F25, .int .i8 F26, .int .i8 F27, .slice A0_28 l0_28.length c0_28]] w fun e w' => e = .returned (.bool r) ∧ Below w.heap.size w w' := by
 have hu32 := Tryd.underlying32
 have HR0_28 := Aside0.mk hr0_28
 have HC0_28 := Aside0.mk hc0_28
 clear hr0_28 hc0_28
 have HB := Aside0.mk (Below.refl w.heap.size w)
 have H : ((impl_Face_isFace.f F0 F1 F2 F3 F4 F5 F6 F7 F8 F9 F10 F11 F12 F13 F14 F15 F16 F17 F18 F19 F20 F21 F22 F23 F24 F25 F26 F27 l0_28).bind fun t143 => (if t143 = true then (some (decide ((l0_28.length : Int) ≤ 12))) else (some false))) = some r := h
 clear h
 replace H := Option.bind_eq_some_iff.mp H
 obtain ⟨t143, A20, H⟩ := H
 (try dsimp only at H)
 have A2 := Aside0.mk A20
 clear A20
 by_cases c3 : t143 = true
 ·subst c3
  rw [if_pos rfl] at H
  have H1 := H
  clear H
  have H := H1
  clear H1
  obtain rfl := Option.some.inj H
  go_enter Tryd.func68, Tryd.ntmps68
  go_wp2_with (first | ((with_reducible refine gate_dst (N := 1) rfl ?_); (try (refine gate_guard (by rfl) ?_; dsimp only)); refine box_event ?hg (N := 1) ?hd (cs := #[.int .i8 F0, .int .i8 F1, .int .i8 F2, .int .i8 F3, .int .i8 F4, .int .i8 F5, .int .i8 F6, .int .i8 F7, .int .i8 F8, .int .i8 F9, .int .i8 F10, .int .i8 F11, .int .i8 F12, .int .i8 F13, .int .i8 F14, .int .i8 F15, .int .i8 F16, .int .i8 F17, .int .i8 F18, .int .i8 F19, .int .i8 F20, .int .i8 F21, .int .i8 F22, .int .i8 F23, .int .i8 F24, .int .i8 F25, .int .i8 F26, .int .i8 F27, .slice A0_28 l0_28.length c0_28]) (t := 32) ?hr ?_; (case hd => rfl); (case hg => rfl); (case hr => first | (go_simp; done) | (go_simp; rfl)); intro gb142 hg w4 hbox hb; have n0_ := Aside0.mk (below_step (by repeat (first | (with_reducible first | exact HB.out | apply bwA | apply pwN | apply bw1) | exact HB.out)) hb); have n1_ := Aside0.mk (hbox); have n2_ := Aside0.mk ((by rw [hg]; exact (below_size (by repeat (first | (with_reducible first | exact HB.out | apply bwA | apply pwN | apply bw1) | exact HB.out))) : w.heap.size ≤ gb142)); have n3_ := Aside0.mk ((by rw [hg]; exact (below_size (by repeat (first | (with_reducible first | exact HB.out | apply bwA | apply pwN | apply bw1) | exact HB.out))) : w.heap.size ≤ gb142)); clear HB; have HB := n0_; have BK142 := n1_; have GW142 := n2_; have GE142 := n3_; clear n0_ n1_ n2_ n3_; clear hb hbox hg) | ((with_reducible refine gate_dst (N := 3) rfl ?_); (try (refine gate_guard (by rfl) ?_; dsimp only)); refine wpList_load_mid rfl 32 (.tmp 1) rfl gb142 0 rfl [.int .i8 F0, .int .i8 F1, .int .i8 F2, .int .i8 F3, .int .i8 F4, .int .i8 F5, .int .i8 F6, .int .i8 F7, .int .i8 F8, .int .i8 F9, .int .i8 F10, .int .i8 F11, .int .i8 F12, .int .i8 F13, .int .i8 F14, .int .i8 F15, .int .i8 F16, .int .i8 F17, .int .i8 F18, .int .i8 F19, .int .i8 F20, .int .i8 F21, .int .i8 F22, .int .i8 F23, .int .i8 F24, .int .i8 F25, .int .i8 F26, .int .i8 F27, .slice A0_28 l0_28.length c0_28] _ (range_partx_ [] [.int .i8 F0, .int .i8 F1, .int .i8 F2, .int .i8 F3, .int .i8 F4, .int .i8 F5, .int .i8 F6, .int .i8 F7, .int .i8 F8, .int .i8 F9, .int .i8 F10, .int .i8 F11, .int .i8 F12, .int .i8 F13, .int .i8 F14, .int .i8 F15, .int .i8 F16, .int .i8 F17, .int .i8 F18, .int .i8 F19, .int .i8 F20, .int .i8 F21, .int .i8 F22, .int .i8 F23, .int .i8 F24, .int .i8 F25, .int .i8 F26, .int .i8 F27, .slice A0_28 l0_28.length c0_28] [] 0 rfl (by (with_reducible repeat (first | refine blk_drewN ?_ _ | refine blk_drew ?_ | refine blk_alloc ?_ _)); exact BK142.out)) Tryd.underlying32 rfl (by exact (show (Tryd.prog.info? 32).map (·.size) = some 29 by kernel_rfl)) ?_) | ((with_reducible refine gate_callee (f := 121) rfl ?_); refine goesL_ (some 4) rfl rfl Tryd.func121 (by kernel_rfl) rfl #[.agg #[.int .i8 F0, .int .i8 F1, .int .i8 F2, .int .i8 F3, .int .i8 F4, .int .i8 F5, .int .i8 F6, .int .i8 F7, .int .i8 F8, .int .i8 F9, .int .i8 F10, .int .i8 F11, .int .i8 F12, .int .i8 F13, .int .i8 F14, .int .i8 F15, .int .i8 F16, .int .i8 F17, .int .i8 F18, .int .i8 F19, .int .i8 F20, .int .i8 F21, .int .i8 F22, .int .i8 F23, .int .i8 F24, .int .i8 F25, .int .i8 F26, .int .i8 F27, .slice A0_28 l0_28.length c0_28]] rfl (by (try simp only [List.map_toArray, List.map_cons, List.map_nil]); first | done | rfl | (simp only [List.length_drop, List.length_take]; rfl)) ?_; (with_reducible refine (impl_Face_isFace.calls F0 F1 F2 F3 F4 F5 F6 F7 F8 F9 F10 F11 F12 F13 F14 F15 F16 F17 F18 F19 F20 F21 F22 F23 F24 F25 F26 F27 _ _ l0_28 true _ ?side1 ?side2 A2.out).mono ?_); (case side1 => repeat (first | exact (Kd.C_below HR0_28.out HB.out) | (with_reducible refine Kd.C_alloc ?_ _) | (with_reducible refine Kd.C_drewN ?_ _) | (with_reducible refine Kd.C_drew ?_))); (case side2 => exact HC0_28.out); rintro e w5 ⟨rfl, hb⟩; refine ⟨_, rfl, ?_⟩; have n0_ := Aside0.mk (blk_below (g := gb142) (o := .cells #[.int .i8 F0, .int .i8 F1, .int .i8 F2, .int .i8 F3, .int .i8 F4, .int .i8 F5, .int .i8 F6, .int .i8 F7, .int .i8 F8, .int .i8 F9, .int .i8 F10, .int .i8 F11, .int .i8 F12, .int .i8 F13, .int .i8 F14, .int .i8 F15, .int .i8 F16, .int .i8 F17, .int .i8 F18, .int .i8 F19, .int .i8 F20, .int .i8 F21, .int .i8 F22, .int .i8 F23, .int .i8 F24, .int .i8 F25, .int .i8 F26, .int .i8 F27, .slice A0_28 l0_28.length c0_28] 32 (0, 0)) (by (with_reducible repeat (first | refine blk_drewN ?_ _ | refine blk_drew ?_ | refine blk_alloc ?_ _)); exact BK142.out) hb); have n1_ := Aside0.mk (below_step (by repeat (first | (with_reducible first | exact HB.out | apply bwA | apply pwN | apply bw1 | refine below_set ?_ GE142.out) | exact HB.out)) hb); clear BK142; clear HB; have BK142 := n0_; have HB := n1_; clear n0_ n1_; (try clear hb); (try clear hb2); (try clear hk); (try clear hi); have hcz6_26 : w5.cell? ⟨gb142, 26, none⟩ = some (.int .i8 F26) := (blk_cell BK142.out 26).trans rfl; have hcz6_27 : w5.cell? ⟨gb142, 27, none⟩ = some (.int .i8 F27) := (blk_cell BK142.out 27).trans rfl; have hcz6_28 : w5.cell? ⟨gb142, 28, none⟩ = some (.slice A0_28 l0_28.length c0_28) := (blk_cell BK142.out 28).trans rfl; have hfz6_26 := blk_frozen BK142.out 26; have hfz6_27 := blk_frozen BK142.out 27; have hfz6_28 := blk_frozen BK142.out 28))
  go_ret
  exact ⟨by first | rfl | (simp [errW_none, errW_some] <;> rfl) | (simp [*, errW_none, errW_some] <;> rfl), by repeat (first | (with_reducible first | exact HB.out | apply bwA | apply pwN | apply bw1 | refine below_set ?_ GE142.out) | exact HB.out)⟩
 ·replace c3 := Bool.eq_false_iff.mpr c3
  subst c3
  rw [if_neg (show ¬ (false = true) by decide)] at H
  have H1 := H
  clear H
  have H := H1
  clear H1
  obtain rfl := Option.some.inj H
  go_enter Tryd.func68, Tryd.ntmps68
  go_wp2_with (first | ((with_reducible refine gate_dst (N := 1) rfl ?_); (try (refine gate_guard (by rfl) ?_; dsimp only)); refine box_event ?hg (N := 1) ?hd (cs := #[.int .i8 F0, .int .i8 F1, .int .i8 F2, .int .i8 F3, .int .i8 F4, .int .i8 F5, .int .i8 F6, .int .i8 F7, .int .i8 F8, .int .i8 F9, .int .i8 F10, .int .i8 F11, .int .i8 F12, .int .i8 F13, .int .i8 F14, .int .i8 F15, .int .i8 F16, .int .i8 F17, .int .i8 F18, .int .i8 F19, .int .i8 F20, .int .i8 F21, .int .i8 F22, .int .i8 F23, .int .i8 F24, .int .i8 F25, .int .i8 F26, .int .i8 F27, .slice A0_28 l0_28.length c0_28]) (t := 32) ?hr ?_; (case hd => rfl); (case hg => rfl); (case hr => first | (go_simp; done) | (go_simp; rfl)); intro gb142 hg w7 hbox hb; have n0_ := Aside0.mk (below_step (by repeat (first | (with_reducible first | exact HB.out | apply bwA | apply pwN | apply bw1) | exact HB.out)) hb); have n1_ := Aside0.mk (hbox); have n2_ := Aside0.mk ((by rw [hg]; exact (below_size (by repeat (first | (with_reducible first | exact HB.out | apply bwA | apply pwN | apply bw1) | exact HB.out))) : w.heap.size ≤ gb142)); have n3_ := Aside0.mk ((by rw [hg]; exact (below_size (by repeat (first | (with_reducible first | exact HB.out | apply bwA | apply pwN | apply bw1) | exact HB.out))) : w.heap.size ≤ gb142)); clear HB; have HB := n0_; have BK142 := n1_; have GW142 := n2_; have GE142 := n3_; clear n0_ n1_ n2_ n3_; clear hb hbox hg) | ((with_reducible refine gate_dst (N := 3) rfl ?_); (try (refine gate_guard (by rfl) ?_; dsimp only)); refine wpList_load_mid rfl 32 (.tmp 1) rfl gb142 0 rfl [.int .i8 F0, .int .i8 F1, .int .i8 F2, .int .i8 F3, .int .i8 F4, .int .i8 F5, .int .i8 F6, .int .i8 F7, .int .i8 F8, .int .i8 F9, .int .i8 F10, .int .i8 F11, .int .i8 F12, .int .i8 F13, .int .i8 F14, .int .i8 F15, .int .i8 F16, .int .i8 F17, .int .i8 F18, .int .i8 F19, .int .i8 F20, .int .i8 F21, .int .i8 F22, .int .i8 F23, .int .i8 F24, .int .i8 F25, .int .i8 F26, .int .i8 F27, .slice A0_28 l0_28.length c0_28] _ (range_partx_ [] [.int .i8 F0, .int .i8 F1, .int .i8 F2, .int .i8 F3, .int .i8 F4, .int .i8 F5, .int .i8 F6, .int .i8 F7, .int .i8 F8, .int .i8 F9, .int .i8 F10, .int .i8 F11, .int .i8 F12, .int .i8 F13, .int .i8 F14, .int .i8 F15, .int .i8 F16, .int .i8 F17, .int .i8 F18, .int .i8 F19, .int .i8 F20, .int .i8 F21, .int .i8 F22, .int .i8 F23, .int .i8 F24, .int .i8 F25, .int .i8 F26, .int .i8 F27, .slice A0_28 l0_28.length c0_28] [] 0 rfl (by (with_reducible repeat (first | refine blk_drewN ?_ _ | refine blk_drew ?_ | refine blk_alloc ?_ _)); exact BK142.out)) Tryd.underlying32 rfl (by exact (show (Tryd.prog.info? 32).map (·.size) = some 29 by kernel_rfl)) ?_) | ((with_reducible refine gate_callee (f := 121) rfl ?_); refine goesL_ (some 4) rfl rfl Tryd.func121 (by kernel_rfl) rfl #[.agg #[.int .i8 F0, .int .i8 F1, .int .i8 F2, .int .i8 F3, .int .i8 F4, .int .i8 F5, .int .i8 F6, .int .i8 F7, .int .i8 F8, .int .i8 F9, .int .i8 F10, .int .i8 F11, .int .i8 F12, .int .i8 F13, .int .i8 F14, .int .i8 F15, .int .i8 F16, .int .i8 F17, .int .i8 F18, .int .i8 F19, .int .i8 F20, .int .i8 F21, .int .i8 F22, .int .i8 F23, .int .i8 F24, .int .i8 F25, .int .i8 F26, .int .i8 F27, .slice A0_28 l0_28.length c0_28]] rfl (by (try simp only [List.map_toArray, List.map_cons, List.map_nil]); first | done | rfl | (simp only [List.length_drop, List.length_take]; rfl)) ?_; (with_reducible refine (impl_Face_isFace.calls F0 F1 F2 F3 F4 F5 F6 F7 F8 F9 F10 F11 F12 F13 F14 F15 F16 F17 F18 F19 F20 F21 F22 F23 F24 F25 F26 F27 _ _ l0_28 false _ ?side1 ?side2 A2.out).mono ?_); (case side1 => repeat (first | exact (Kd.C_below HR0_28.out HB.out) | (with_reducible refine Kd.C_alloc ?_ _) | (with_reducible refine Kd.C_drewN ?_ _) | (with_reducible refine Kd.C_drew ?_))); (case side2 => exact HC0_28.out); rintro e w8 ⟨rfl, hb⟩; refine ⟨_, rfl, ?_⟩; have n0_ := Aside0.mk (blk_below (g := gb142) (o := .cells #[.int .i8 F0, .int .i8 F1, .int .i8 F2, .int .i8 F3, .int .i8 F4, .int .i8 F5, .int .i8 F6, .int .i8 F7, .int .i8 F8, .int .i8 F9, .int .i8 F10, .int .i8 F11, .int .i8 F12, .int .i8 F13, .int .i8 F14, .int .i8 F15, .int .i8 F16, .int .i8 F17, .int .i8 F18, .int .i8 F19, .int .i8 F20, .int .i8 F21, .int .i8 F22, .int .i8 F23, .int .i8 F24, .int .i8 F25, .int .i8 F26, .int .i8 F27, .slice A0_28 l0_28.length c0_28] 32 (0, 0)) (by (with_reducible repeat (first | refine blk_drewN ?_ _ | refine blk_drew ?_ | refine blk_alloc ?_ _)); exact BK142.out) hb); have n1_ := Aside0.mk (below_step (by repeat (first | (with_reducible first | exact HB.out | apply bwA | apply pwN | apply bw1 | refine below_set ?_ GE142.out) | exact HB.out)) hb); clear BK142; clear HB; have BK142 := n0_; have HB := n1_; clear n0_ n1_; (try clear hb); (try clear hb2); (try clear hk); (try clear hi)))
  go_ret
  exact ⟨by first | rfl | (simp [errW_none, errW_some] <;> rfl) | (simp [*, errW_none, errW_some] <;> rfl), by repeat (first | (with_reducible first | exact HB.out | apply bwA | apply pwN | apply bw1 | refine below_set ?_ GE142.out) | exact HB.out)⟩
end Go.Proofs.YticjkfacdmmopaaDoor.Q
namespace Go.Proofs.YticjkfacdmmopaaDoor.Ext
end Go.Proofs.YticjkfacdmmopaaDoor.Ext
namespace Go.Proofs.YticjkfacdmmopaaDoor.Q
open Go.Proofs.YticjkfacdmmopaaDoor.Ext
open Go.RowKit Go.Proofs.YticjkfacdmmopaaDoorW.PrintWords Go.Proofs.YticjkfacdmmopaaDoorW.PrintLast Go.Proofs.YticjkfacdmmopaaDoorW.PrintMore
attribute [local go_sem] max2_int min2_int max_two min_two max_three min_three max_four min_four
set_option linter.unusedVariables false
set_option linter.unusedSimpArgs false
def impl_Face_wide.f (k : Nat) (F0 F1 F2 F3 F4 F5 F6 F7 F8 F9 F10 F11 F12 F13 F14 F15 F16 F17 F18 F19 F20 F21 F22 F23 F24 F25 F26 F27 : Int) (l0_28 : List (S137)) (a1 : ByteArray) : Option (Int) := (impl_Face_places.f k F0 F1 F2 F3 F4 F5 F6 F7 F8 F9 F10 F11 F12 F13 F14 F15 F16 F17 F18 F19 F20 F21 F22 F23 F24 F25 F26 F27 l0_28 a1).bind fun bt168 => (some bt168.2)
set_option maxHeartbeats 8000000 in
set_option maxRecDepth 100000 in
theorem impl_Face_wide.calls (k : Nat) (F0 F1 F2 F3 F4 F5 F6 F7 F8 F9 F10 F11 F12 F13 F14 F15 F16 F17 F18 F19 F20 F21 F22 F23 F24 F25 F26 F27 : Int) (A0_28 : Option Addr) (c0_28 : Nat) (l0_28 : List (S137)) (a1 : ByteArray) (r : Int) (w : World) (hr0_28 : Kd.C k137 w A0_28 l0_28.length l0_28) (hc0_28 : l0_28.length ≤ c0_28) (h : impl_Face_wide.f k F0 F1 F2 F3 F4 F5 F6 F7 F8 F9 F10 F11 F12 F13 F14 F15 F16 F17 F18 F19 F20 F21 F22 F23 F24 F25 F26 F27 l0_28 a1 = some r) :
  Calls Tryd.prog 70 #[.agg #[.int .i8 F0, .int .i8 F1, .int .i8 F2, .int .i8 F3, .int .i8 F4, .int .i8 F5, .int .i8 F6, .int .i8 F7, .int .i8 F8, .int .i8 F9, .int .i8 F10, .int .i8 F11, .int .i8 F12, .int .i8 F13, .int .i8 F14, .int .i8 F15, .int .i8 F16, .int .i8 F17, .int .i8 F18, .int .i8 F19, .int .i8 F20, .int .i8 F21, .int .i8 F22, .int .i8 F23, .int .i8 F24, .int .i8 F25, .int .i8 F26, .int .i8 F27, .slice A0_28 l0_28.length c0_28], .string a1] w fun e w' => e = .returned (.int .i64 r) ∧ Below w.heap.size w w' := by
 have hu32 := Tryd.underlying32
 have HR0_28 := Aside0.mk hr0_28
 have HC0_28 := Aside0.mk hc0_28
 clear hr0_28 hc0_28
 have HB := Aside0.mk (Below.refl w.heap.size w)
 have H : ((impl_Face_places.f k F0 F1 F2 F3 F4 F5 F6 F7 F8 F9 F10 F11 F12 F13 F14 F15 F16 F17 F18 F19 F20 F21 F22 F23 F24 F25 F26 F27 l0_28 a1).bind fun bt168 => (some bt168.2)) = some r := h
 clear h
 replace H := Option.bind_eq_some_iff.mp H
 obtain ⟨⟨t168, t171⟩, A30, H⟩ := H
 replace H : (some t171) = some r := H
 have A3 := Aside0.mk A30
 clear A30
 obtain rfl := Option.some.inj H
 go_enter Tryd.func70, Tryd.ntmps70
 go_wp2_with (first | ((with_reducible refine gate_dst (N := 2) rfl ?_); refine box_event ?hg (N := 2) ?hd (cs := #[.int .i8 F0, .int .i8 F1, .int .i8 F2, .int .i8 F3, .int .i8 F4, .int .i8 F5, .int .i8 F6, .int .i8 F7, .int .i8 F8, .int .i8 F9, .int .i8 F10, .int .i8 F11, .int .i8 F12, .int .i8 F13, .int .i8 F14, .int .i8 F15, .int .i8 F16, .int .i8 F17, .int .i8 F18, .int .i8 F19, .int .i8 F20, .int .i8 F21, .int .i8 F22, .int .i8 F23, .int .i8 F24, .int .i8 F25, .int .i8 F26, .int .i8 F27, .slice A0_28 l0_28.length c0_28]) (t := 32) ?hr ?_; (case hd => rfl); (case hg => rfl); (case hr => first | (go_simp; done) | (go_simp; rfl)); intro gb167 hg w4 hbox hb; have n0_ := Aside0.mk (below_step (by repeat (first | (with_reducible first | exact HB.out | apply bwA | apply pwN | apply bw1) | exact HB.out)) hb); have n1_ := Aside0.mk (hbox); have n2_ := Aside0.mk ((by rw [hg]; exact (below_size (by repeat (first | (with_reducible first | exact HB.out | apply bwA | apply pwN | apply bw1) | exact HB.out))) : w.heap.size ≤ gb167)); have n3_ := Aside0.mk ((by rw [hg]; exact (below_size (by repeat (first | (with_reducible first | exact HB.out | apply bwA | apply pwN | apply bw1) | exact HB.out))) : w.heap.size ≤ gb167)); clear HB; have HB := n0_; have BK167 := n1_; have GW167 := n2_; have GE167 := n3_; clear n0_ n1_ n2_ n3_; clear hb hbox hg) | ((with_reducible refine gate_dst (N := 8) rfl ?_); refine wpList_load_mid rfl 32 (.tmp 2) rfl gb167 0 rfl [.int .i8 F0, .int .i8 F1, .int .i8 F2, .int .i8 F3, .int .i8 F4, .int .i8 F5, .int .i8 F6, .int .i8 F7, .int .i8 F8, .int .i8 F9, .int .i8 F10, .int .i8 F11, .int .i8 F12, .int .i8 F13, .int .i8 F14, .int .i8 F15, .int .i8 F16, .int .i8 F17, .int .i8 F18, .int .i8 F19, .int .i8 F20, .int .i8 F21, .int .i8 F22, .int .i8 F23, .int .i8 F24, .int .i8 F25, .int .i8 F26, .int .i8 F27, .slice A0_28 l0_28.length c0_28] _ (range_partx_ [] [.int .i8 F0, .int .i8 F1, .int .i8 F2, .int .i8 F3, .int .i8 F4, .int .i8 F5, .int .i8 F6, .int .i8 F7, .int .i8 F8, .int .i8 F9, .int .i8 F10, .int .i8 F11, .int .i8 F12, .int .i8 F13, .int .i8 F14, .int .i8 F15, .int .i8 F16, .int .i8 F17, .int .i8 F18, .int .i8 F19, .int .i8 F20, .int .i8 F21, .int .i8 F22, .int .i8 F23, .int .i8 F24, .int .i8 F25, .int .i8 F26, .int .i8 F27, .slice A0_28 l0_28.length c0_28] [] 0 rfl (by (with_reducible repeat (first | refine blk_drewN ?_ _ | refine blk_drew ?_ | refine blk_alloc ?_ _)); exact BK167.out)) Tryd.underlying32 rfl (by exact (show (Tryd.prog.info? 32).map (·.size) = some 29 by kernel_rfl)) ?_) | ((with_reducible refine gate_callee (f := 80) rfl ?_); refine goesL_ (some 10) rfl rfl Tryd.func80 (by kernel_rfl) rfl #[.agg #[.int .i8 F0, .int .i8 F1, .int .i8 F2, .int .i8 F3, .int .i8 F4, .int .i8 F5, .int .i8 F6, .int .i8 F7, .int .i8 F8, .int .i8 F9, .int .i8 F10, .int .i8 F11, .int .i8 F12, .int .i8 F13, .int .i8 F14, .int .i8 F15, .int .i8 F16, .int .i8 F17, .int .i8 F18, .int .i8 F19, .int .i8 F20, .int .i8 F21, .int .i8 F22, .int .i8 F23, .int .i8 F24, .int .i8 F25, .int .i8 F26, .int .i8 F27, .slice A0_28 l0_28.length c0_28], .string a1] rfl (by (try simp only [List.map_toArray, List.map_cons, List.map_nil]); first | done | rfl | (simp only [List.length_drop, List.length_take]; rfl)) ?_; (with_reducible refine (impl_Face_places.calls k F0 F1 F2 F3 F4 F5 F6 F7 F8 F9 F10 F11 F12 F13 F14 F15 F16 F17 F18 F19 F20 F21 F22 F23 F24 F25 F26 F27 _ _ l0_28 a1 t168 t171 _ ?side1 ?side2 A3.out).mono ?_); (case side1 => repeat (first | exact (Kd.C_below HR0_28.out HB.out) | (with_reducible refine Kd.C_alloc ?_ _) | (with_reducible refine Kd.C_drewN ?_ _) | (with_reducible refine Kd.C_drew ?_))); (case side2 => exact HC0_28.out); rintro e w5 ⟨v169, rfl, ho0, hb⟩; refine ⟨_, rfl, ?_⟩; have n0_ := Aside0.mk (Kd.R_lower ho0 (below_size (by repeat (first | (with_reducible first | exact HB.out | apply bwA | apply pwN | apply bw1 | refine below_set ?_ GE167.out) | exact HB.out)))); have n1_ := Aside0.mk (blk_below (g := gb167) (o := .cells #[.int .i8 F0, .int .i8 F1, .int .i8 F2, .int .i8 F3, .int .i8 F4, .int .i8 F5, .int .i8 F6, .int .i8 F7, .int .i8 F8, .int .i8 F9, .int .i8 F10, .int .i8 F11, .int .i8 F12, .int .i8 F13, .int .i8 F14, .int .i8 F15, .int .i8 F16, .int .i8 F17, .int .i8 F18, .int .i8 F19, .int .i8 F20, .int .i8 F21, .int .i8 F22, .int .i8 F23, .int .i8 F24, .int .i8 F25, .int .i8 F26, .int .i8 F27, .slice A0_28 l0_28.length c0_28] 32 (0, 0)) (by (with_reducible repeat (first | refine blk_drewN ?_ _ | refine blk_drew ?_ | refine blk_alloc ?_ _)); exact BK167.out) hb); have n2_ := Aside0.mk (below_step (by repeat (first | (with_reducible first | exact HB.out | apply bwA | apply pwN | apply bw1 | refine below_set ?_ GE167.out) | exact HB.out)) hb); clear BK167; clear HB; have HO170 := n0_; have BK167 := n1_; have HB := n2_; clear n0_ n1_ n2_; (try clear hb); (try clear hb2); (try clear hk); (try clear hi); (try clear ho0)))
 go_ret
 exact ⟨by first | rfl | (simp [errW_none, errW_some] <;> rfl) | (simp [*, errW_none, errW_some] <;> rfl), by repeat (first | (with_reducible first | exact HB.out | apply bwA | apply pwN | apply bw1 | refine below_set ?_ GE167.out) | exact HB.out)⟩
def laws_eqPair.f (F0 F1 F2 J0 J1 J2 : Int) : Option (Bool) := if F0 = J0 then (if F1 = J1 then (if F2 = J2 then (some true) else (some false)) else (some false)) else (some false)
set_option maxHeartbeats 8000000 in
set_option maxRecDepth 100000 in
theorem laws_eqPair.calls (F0 F1 F2 J0 J1 J2 : Int) (r : Bool) (w : World) (h : laws_eqPair.f F0 F1 F2 J0 J1 J2 = some r) :
  Calls Tryd.prog 123 #[.agg #[.int .u8 F0, .int .u8 F1, .int .i8 F2], .agg #[.int .u8 J0, .int .u8 J1, .int .i8 J2]] w fun e w' => e = .returned (.bool r) ∧ Below w.heap.size w w' := by
 have hu137 := Tryd.underlying137
 have HB := Aside0.mk (Below.refl w.heap.size w)
 have H : (if F0 = J0 then (if F1 = J1 then (if F2 = J2 then (some true) else (some false)) else (some false)) else (some false)) = some r := h
 clear h
 by_cases c3 : F0 = J0
 ·rw [if_pos c3] at H
  have c3b0 : (F0 == J0) = true := beq_iff_eq.mpr c3
  have c3b1 : (F0 != J0) = false := bne_eq_false_iff_eq.mpr c3
  clear c3
  by_cases c4 : F1 = J1
  ·rw [if_pos c4] at H
   have c4b0 : (F1 == J1) = true := beq_iff_eq.mpr c4
   have c4b1 : (F1 != J1) = false := bne_eq_false_iff_eq.mpr c4
   clear c4
   by_cases c5 : F2 = J2
   ·rw [if_pos c5] at H
    have c5b0 : (F2 == J2) = true := beq_iff_eq.mpr c5
    have c5b1 : (F2 != J2) = false := bne_eq_false_iff_eq.mpr c5
    clear c5
    obtain rfl := Option.some.inj H
    go_enter Tryd.func123, Tryd.ntmps123
    go_wp2_with (first | ((with_reducible refine gate_dst (N := 2) rfl ?_); refine box_event ?hg (N := 2) ?hd (cs := #[.int .u8 F0, .int .u8 F1, .int .i8 F2]) (t := 137) ?hr ?_; (case hd => rfl); (case hg => rfl); (case hr => first | (go_simp; done) | (go_simp; rfl)); intro gb178 hg w6 hbox hb; have n0_ := Aside0.mk (below_step (by repeat (first | (with_reducible first | exact HB.out | apply bwA | apply pwN | apply bw1) | exact HB.out)) hb); have n1_ := Aside0.mk (hbox); have n2_ := Aside0.mk ((by rw [hg]; exact (below_size (by repeat (first | (with_reducible first | exact HB.out | apply bwA | apply pwN | apply bw1) | exact HB.out))) : w.heap.size ≤ gb178)); have n3_ := Aside0.mk ((by rw [hg]; exact (below_size (by repeat (first | (with_reducible first | exact HB.out | apply bwA | apply pwN | apply bw1) | exact HB.out))) : w.heap.size ≤ gb178)); clear HB; have HB := n0_; have BK178 := n1_; have GW178 := n2_; have GE178 := n3_; clear n0_ n1_ n2_ n3_; clear hb hbox hg) | ((with_reducible refine gate_dst (N := 3) rfl ?_); refine box_event ?hg (N := 3) ?hd (cs := #[.int .u8 J0, .int .u8 J1, .int .i8 J2]) (t := 137) ?hr ?_; (case hd => rfl); (case hg => rfl); (case hr => first | (go_simp; done) | (go_simp; rfl)); intro gb179 hg w7 hbox hb; have n0_ := Aside0.mk (blk_below (g := gb178) (o := .cells #[.int .u8 F0, .int .u8 F1, .int .i8 F2] 137 (0, 0)) (by (with_reducible repeat (first | refine blk_drewN ?_ _ | refine blk_drew ?_ | refine blk_alloc ?_ _)); exact BK178.out) hb); have n1_ := Aside0.mk (below_step (by repeat (first | (with_reducible first | exact HB.out | apply bwA | apply pwN | apply bw1 | refine below_set ?_ GE178.out) | exact HB.out)) hb); have n2_ := Aside0.mk (hbox); have n3_ := Aside0.mk ((by rw [hg]; exact (below_size (by repeat (first | (with_reducible first | exact HB.out | apply bwA | apply pwN | apply bw1 | refine below_set ?_ GE178.out) | exact HB.out))) : w.heap.size ≤ gb179)); have n4_ := Aside0.mk ((by rw [hg]; exact (below_size (by repeat (first | (with_reducible first | exact HB.out | apply bwA | apply pwN | apply bw1 | refine below_set ?_ GE178.out) | exact HB.out))) : w.heap.size ≤ gb179)); have n5_ := Aside0.mk ((by rw [hg]; exact Nat.ne_of_lt (blk_lt (g := gb178) (o := .cells #[.int .u8 F0, .int .u8 F1, .int .i8 F2] 137 (0, 0)) (by (with_reducible repeat (first | refine blk_drewN ?_ _ | refine blk_drew ?_ | refine blk_alloc ?_ _)); exact BK178.out)) : gb178 ≠ gb179)); have n6_ := Aside0.mk ((by rw [hg]; exact Nat.ne_of_gt (blk_lt (g := gb178) (o := .cells #[.int .u8 F0, .int .u8 F1, .int .i8 F2] 137 (0, 0)) (by (with_reducible repeat (first | refine blk_drewN ?_ _ | refine blk_drew ?_ | refine blk_alloc ?_ _)); exact BK178.out)) : gb179 ≠ gb178)); clear BK178; clear HB; have BK178 := n0_; have HB := n1_; have BK179 := n2_; have GW179 := n3_; have GE179 := n4_; have NB178_179 := n5_; have NB179_178 := n6_; clear n0_ n1_ n2_ n3_ n4_ n5_ n6_; clear hb hbox hg; have hnb8 := NB178_179.out; have hnc8 := NB179_178.out; have hcz9_0 : w7.cell? ⟨gb178, 0, none⟩ = some (.int .u8 F0) := (blk_cell BK178.out 0).trans rfl; have hcz9_1 : w7.cell? ⟨gb178, 1, none⟩ = some (.int .u8 F1) := (blk_cell BK178.out 1).trans rfl; have hcz9_2 : w7.cell? ⟨gb178, 2, none⟩ = some (.int .i8 F2) := (blk_cell BK178.out 2).trans rfl; have hfz9_0 := blk_frozen BK178.out 0; have hfz9_1 := blk_frozen BK178.out 1; have hfz9_2 := blk_frozen BK178.out 2; have hcz10_0 : w7.cell? ⟨gb179, 0, none⟩ = some (.int .u8 J0) := (blk_cell BK179.out 0).trans rfl; have hcz10_1 : w7.cell? ⟨gb179, 1, none⟩ = some (.int .u8 J1) := (blk_cell BK179.out 1).trans rfl; have hcz10_2 : w7.cell? ⟨gb179, 2, none⟩ = some (.int .i8 J2) := (blk_cell BK179.out 2).trans rfl; have hfz10_0 := blk_frozen BK179.out 0; have hfz10_1 := blk_frozen BK179.out 1; have hfz10_2 := blk_frozen BK179.out 2))
    go_ret
    exact ⟨by first | rfl | (simp [errW_none, errW_some] <;> rfl) | (simp [*, errW_none, errW_some] <;> rfl), by repeat (first | (with_reducible first | exact HB.out | apply bwA | apply pwN | apply bw1 | refine below_set ?_ GE178.out | refine below_set ?_ GE179.out) | exact HB.out)⟩
   ·rw [if_neg c5] at H
    have c5b0 : (F2 == J2) = false := beq_eq_false_iff_ne.mpr c5
    have c5b1 : (F2 != J2) = true := bne_iff_ne.mpr c5
    obtain rfl := Option.some.inj H
    go_enter Tryd.func123, Tryd.ntmps123
    go_wp2_with (first | ((with_reducible refine gate_dst (N := 2) rfl ?_); refine box_event ?hg (N := 2) ?hd (cs := #[.int .u8 F0, .int .u8 F1, .int .i8 F2]) (t := 137) ?hr ?_; (case hd => rfl); (case hg => rfl); (case hr => first | (go_simp; done) | (go_simp; rfl)); intro gb178 hg w11 hbox hb; have n0_ := Aside0.mk (below_step (by repeat (first | (with_reducible first | exact HB.out | apply bwA | apply pwN | apply bw1) | exact HB.out)) hb); have n1_ := Aside0.mk (hbox); have n2_ := Aside0.mk ((by rw [hg]; exact (below_size (by repeat (first | (with_reducible first | exact HB.out | apply bwA | apply pwN | apply bw1) | exact HB.out))) : w.heap.size ≤ gb178)); have n3_ := Aside0.mk ((by rw [hg]; exact (below_size (by repeat (first | (with_reducible first | exact HB.out | apply bwA | apply pwN | apply bw1) | exact HB.out))) : w.heap.size ≤ gb178)); clear HB; have HB := n0_; have BK178 := n1_; have GW178 := n2_; have GE178 := n3_; clear n0_ n1_ n2_ n3_; clear hb hbox hg) | ((with_reducible refine gate_dst (N := 3) rfl ?_); refine box_event ?hg (N := 3) ?hd (cs := #[.int .u8 J0, .int .u8 J1, .int .i8 J2]) (t := 137) ?hr ?_; (case hd => rfl); (case hg => rfl); (case hr => first | (go_simp; done) | (go_simp; rfl)); intro gb179 hg w12 hbox hb; have n0_ := Aside0.mk (blk_below (g := gb178) (o := .cells #[.int .u8 F0, .int .u8 F1, .int .i8 F2] 137 (0, 0)) (by (with_reducible repeat (first | refine blk_drewN ?_ _ | refine blk_drew ?_ | refine blk_alloc ?_ _)); exact BK178.out) hb); have n1_ := Aside0.mk (below_step (by repeat (first | (with_reducible first | exact HB.out | apply bwA | apply pwN | apply bw1 | refine below_set ?_ GE178.out) | exact HB.out)) hb); have n2_ := Aside0.mk (hbox); have n3_ := Aside0.mk ((by rw [hg]; exact (below_size (by repeat (first | (with_reducible first | exact HB.out | apply bwA | apply pwN | apply bw1 | refine below_set ?_ GE178.out) | exact HB.out))) : w.heap.size ≤ gb179)); have n4_ := Aside0.mk ((by rw [hg]; exact (below_size (by repeat (first | (with_reducible first | exact HB.out | apply bwA | apply pwN | apply bw1 | refine below_set ?_ GE178.out) | exact HB.out))) : w.heap.size ≤ gb179)); have n5_ := Aside0.mk ((by rw [hg]; exact Nat.ne_of_lt (blk_lt (g := gb178) (o := .cells #[.int .u8 F0, .int .u8 F1, .int .i8 F2] 137 (0, 0)) (by (with_reducible repeat (first | refine blk_drewN ?_ _ | refine blk_drew ?_ | refine blk_alloc ?_ _)); exact BK178.out)) : gb178 ≠ gb179)); have n6_ := Aside0.mk ((by rw [hg]; exact Nat.ne_of_gt (blk_lt (g := gb178) (o := .cells #[.int .u8 F0, .int .u8 F1, .int .i8 F2] 137 (0, 0)) (by (with_reducible repeat (first | refine blk_drewN ?_ _ | refine blk_drew ?_ | refine blk_alloc ?_ _)); exact BK178.out)) : gb179 ≠ gb178)); clear BK178; clear HB; have BK178 := n0_; have HB := n1_; have BK179 := n2_; have GW179 := n3_; have GE179 := n4_; have NB178_179 := n5_; have NB179_178 := n6_; clear n0_ n1_ n2_ n3_ n4_ n5_ n6_; clear hb hbox hg; have hnb13 := NB178_179.out; have hnc13 := NB179_178.out; have hcz14_0 : w12.cell? ⟨gb178, 0, none⟩ = some (.int .u8 F0) := (blk_cell BK178.out 0).trans rfl; have hcz14_1 : w12.cell? ⟨gb178, 1, none⟩ = some (.int .u8 F1) := (blk_cell BK178.out 1).trans rfl; have hcz14_2 : w12.cell? ⟨gb178, 2, none⟩ = some (.int .i8 F2) := (blk_cell BK178.out 2).trans rfl; have hfz14_0 := blk_frozen BK178.out 0; have hfz14_1 := blk_frozen BK178.out 1; have hfz14_2 := blk_frozen BK178.out 2; have hcz15_0 : w12.cell? ⟨gb179, 0, none⟩ = some (.int .u8 J0) := (blk_cell BK179.out 0).trans rfl; have hcz15_1 : w12.cell? ⟨gb179, 1, none⟩ = some (.int .u8 J1) := (blk_cell BK179.out 1).trans rfl; have hcz15_2 : w12.cell? ⟨gb179, 2, none⟩ = some (.int .i8 J2) := (blk_cell BK179.out 2).trans rfl; have hfz15_0 := blk_frozen BK179.out 0; have hfz15_1 := blk_frozen BK179.out 1; have hfz15_2 := blk_frozen BK179.out 2))
    go_ret
    exact ⟨by first | rfl | (simp [errW_none, errW_some] <;> rfl) | (simp [*, errW_none, errW_some] <;> rfl), by repeat (first | (with_reducible first | exact HB.out | apply bwA | apply pwN | apply bw1 | refine below_set ?_ GE178.out | refine below_set ?_ GE179.out) | exact HB.out)⟩
  ·rw [if_neg c4] at H
   have c4b0 : (F1 == J1) = false := beq_eq_false_iff_ne.mpr c4
   have c4b1 : (F1 != J1) = true := bne_iff_ne.mpr c4
   obtain rfl := Option.some.inj H
   go_enter Tryd.func123, Tryd.ntmps123
   go_wp2_with (first | ((with_reducible refine gate_dst (N := 2) rfl ?_); refine box_event ?hg (N := 2) ?hd (cs := #[.int .u8 F0, .int .u8 F1, .int .i8 F2]) (t := 137) ?hr ?_; (case hd => rfl); (case hg => rfl); (case hr => first | (go_simp; done) | (go_simp; rfl)); intro gb178 hg w16 hbox hb; have n0_ := Aside0.mk (below_step (by repeat (first | (with_reducible first | exact HB.out | apply bwA | apply pwN | apply bw1) | exact HB.out)) hb); have n1_ := Aside0.mk (hbox); have n2_ := Aside0.mk ((by rw [hg]; exact (below_size (by repeat (first | (with_reducible first | exact HB.out | apply bwA | apply pwN | apply bw1) | exact HB.out))) : w.heap.size ≤ gb178)); have n3_ := Aside0.mk ((by rw [hg]; exact (below_size (by repeat (first | (with_reducible first | exact HB.out | apply bwA | apply pwN | apply bw1) | exact HB.out))) : w.heap.size ≤ gb178)); clear HB; have HB := n0_; have BK178 := n1_; have GW178 := n2_; have GE178 := n3_; clear n0_ n1_ n2_ n3_; clear hb hbox hg) | ((with_reducible refine gate_dst (N := 3) rfl ?_); refine box_event ?hg (N := 3) ?hd (cs := #[.int .u8 J0, .int .u8 J1, .int .i8 J2]) (t := 137) ?hr ?_; (case hd => rfl); (case hg => rfl); (case hr => first | (go_simp; done) | (go_simp; rfl)); intro gb179 hg w17 hbox hb; have n0_ := Aside0.mk (blk_below (g := gb178) (o := .cells #[.int .u8 F0, .int .u8 F1, .int .i8 F2] 137 (0, 0)) (by (with_reducible repeat (first | refine blk_drewN ?_ _ | refine blk_drew ?_ | refine blk_alloc ?_ _)); exact BK178.out) hb); have n1_ := Aside0.mk (below_step (by repeat (first | (with_reducible first | exact HB.out | apply bwA | apply pwN | apply bw1 | refine below_set ?_ GE178.out) | exact HB.out)) hb); have n2_ := Aside0.mk (hbox); have n3_ := Aside0.mk ((by rw [hg]; exact (below_size (by repeat (first | (with_reducible first | exact HB.out | apply bwA | apply pwN | apply bw1 | refine below_set ?_ GE178.out) | exact HB.out))) : w.heap.size ≤ gb179)); have n4_ := Aside0.mk ((by rw [hg]; exact (below_size (by repeat (first | (with_reducible first | exact HB.out | apply bwA | apply pwN | apply bw1 | refine below_set ?_ GE178.out) | exact HB.out))) : w.heap.size ≤ gb179)); have n5_ := Aside0.mk ((by rw [hg]; exact Nat.ne_of_lt (blk_lt (g := gb178) (o := .cells #[.int .u8 F0, .int .u8 F1, .int .i8 F2] 137 (0, 0)) (by (with_reducible repeat (first | refine blk_drewN ?_ _ | refine blk_drew ?_ | refine blk_alloc ?_ _)); exact BK178.out)) : gb178 ≠ gb179)); have n6_ := Aside0.mk ((by rw [hg]; exact Nat.ne_of_gt (blk_lt (g := gb178) (o := .cells #[.int .u8 F0, .int .u8 F1, .int .i8 F2] 137 (0, 0)) (by (with_reducible repeat (first | refine blk_drewN ?_ _ | refine blk_drew ?_ | refine blk_alloc ?_ _)); exact BK178.out)) : gb179 ≠ gb178)); clear BK178; clear HB; have BK178 := n0_; have HB := n1_; have BK179 := n2_; have GW179 := n3_; have GE179 := n4_; have NB178_179 := n5_; have NB179_178 := n6_; clear n0_ n1_ n2_ n3_ n4_ n5_ n6_; clear hb hbox hg; have hnb18 := NB178_179.out; have hnc18 := NB179_178.out; have hcz19_0 : w17.cell? ⟨gb178, 0, none⟩ = some (.int .u8 F0) := (blk_cell BK178.out 0).trans rfl; have hcz19_1 : w17.cell? ⟨gb178, 1, none⟩ = some (.int .u8 F1) := (blk_cell BK178.out 1).trans rfl; have hcz19_2 : w17.cell? ⟨gb178, 2, none⟩ = some (.int .i8 F2) := (blk_cell BK178.out 2).trans rfl; have hfz19_0 := blk_frozen BK178.out 0; have hfz19_1 := blk_frozen BK178.out 1; have hfz19_2 := blk_frozen BK178.out 2; have hcz20_0 : w17.cell? ⟨gb179, 0, none⟩ = some (.int .u8 J0) := (blk_cell BK179.out 0).trans rfl; have hcz20_1 : w17.cell? ⟨gb179, 1, none⟩ = some (.int .u8 J1) := (blk_cell BK179.out 1).trans rfl; have hcz20_2 : w17.cell? ⟨gb179, 2, none⟩ = some (.int .i8 J2) := (blk_cell BK179.out 2).trans rfl; have hfz20_0 := blk_frozen BK179.out 0; have hfz20_1 := blk_frozen BK179.out 1; have hfz20_2 := blk_frozen BK179.out 2))
   go_ret
   exact ⟨by first | rfl | (simp [errW_none, errW_some] <;> rfl) | (simp [*, errW_none, errW_some] <;> rfl), by repeat (first | (with_reducible first | exact HB.out | apply bwA | apply pwN | apply bw1 | refine below_set ?_ GE178.out | refine below_set ?_ GE179.out) | exact HB.out)⟩
 ·rw [if_neg c3] at H
  have c3b0 : (F0 == J0) = false := beq_eq_false_iff_ne.mpr c3
  have c3b1 : (F0 != J0) = true := bne_iff_ne.mpr c3
  obtain rfl := Option.some.inj H
  go_enter Tryd.func123, Tryd.ntmps123
  go_wp2_with (first | ((with_reducible refine gate_dst (N := 2) rfl ?_); refine box_event ?hg (N := 2) ?hd (cs := #[.int .u8 F0, .int .u8 F1, .int .i8 F2]) (t := 137) ?hr ?_; (case hd => rfl); (case hg => rfl); (case hr => first | (go_simp; done) | (go_simp; rfl)); intro gb178 hg w21 hbox hb; have n0_ := Aside0.mk (below_step (by repeat (first | (with_reducible first | exact HB.out | apply bwA | apply pwN | apply bw1) | exact HB.out)) hb); have n1_ := Aside0.mk (hbox); have n2_ := Aside0.mk ((by rw [hg]; exact (below_size (by repeat (first | (with_reducible first | exact HB.out | apply bwA | apply pwN | apply bw1) | exact HB.out))) : w.heap.size ≤ gb178)); have n3_ := Aside0.mk ((by rw [hg]; exact (below_size (by repeat (first | (with_reducible first | exact HB.out | apply bwA | apply pwN | apply bw1) | exact HB.out))) : w.heap.size ≤ gb178)); clear HB; have HB := n0_; have BK178 := n1_; have GW178 := n2_; have GE178 := n3_; clear n0_ n1_ n2_ n3_; clear hb hbox hg) | ((with_reducible refine gate_dst (N := 3) rfl ?_); refine box_event ?hg (N := 3) ?hd (cs := #[.int .u8 J0, .int .u8 J1, .int .i8 J2]) (t := 137) ?hr ?_; (case hd => rfl); (case hg => rfl); (case hr => first | (go_simp; done) | (go_simp; rfl)); intro gb179 hg w22 hbox hb; have n0_ := Aside0.mk (blk_below (g := gb178) (o := .cells #[.int .u8 F0, .int .u8 F1, .int .i8 F2] 137 (0, 0)) (by (with_reducible repeat (first | refine blk_drewN ?_ _ | refine blk_drew ?_ | refine blk_alloc ?_ _)); exact BK178.out) hb); have n1_ := Aside0.mk (below_step (by repeat (first | (with_reducible first | exact HB.out | apply bwA | apply pwN | apply bw1 | refine below_set ?_ GE178.out) | exact HB.out)) hb); have n2_ := Aside0.mk (hbox); have n3_ := Aside0.mk ((by rw [hg]; exact (below_size (by repeat (first | (with_reducible first | exact HB.out | apply bwA | apply pwN | apply bw1 | refine below_set ?_ GE178.out) | exact HB.out))) : w.heap.size ≤ gb179)); have n4_ := Aside0.mk ((by rw [hg]; exact (below_size (by repeat (first | (with_reducible first | exact HB.out | apply bwA | apply pwN | apply bw1 | refine below_set ?_ GE178.out) | exact HB.out))) : w.heap.size ≤ gb179)); have n5_ := Aside0.mk ((by rw [hg]; exact Nat.ne_of_lt (blk_lt (g := gb178) (o := .cells #[.int .u8 F0, .int .u8 F1, .int .i8 F2] 137 (0, 0)) (by (with_reducible repeat (first | refine blk_drewN ?_ _ | refine blk_drew ?_ | refine blk_alloc ?_ _)); exact BK178.out)) : gb178 ≠ gb179)); have n6_ := Aside0.mk ((by rw [hg]; exact Nat.ne_of_gt (blk_lt (g := gb178) (o := .cells #[.int .u8 F0, .int .u8 F1, .int .i8 F2] 137 (0, 0)) (by (with_reducible repeat (first | refine blk_drewN ?_ _ | refine blk_drew ?_ | refine blk_alloc ?_ _)); exact BK178.out)) : gb179 ≠ gb178)); clear BK178; clear HB; have BK178 := n0_; have HB := n1_; have BK179 := n2_; have GW179 := n3_; have GE179 := n4_; have NB178_179 := n5_; have NB179_178 := n6_; clear n0_ n1_ n2_ n3_ n4_ n5_ n6_; clear hb hbox hg; have hnb23 := NB178_179.out; have hnc23 := NB179_178.out; have hcz24_0 : w22.cell? ⟨gb178, 0, none⟩ = some (.int .u8 F0) := (blk_cell BK178.out 0).trans rfl; have hcz24_1 : w22.cell? ⟨gb178, 1, none⟩ = some (.int .u8 F1) := (blk_cell BK178.out 1).trans rfl; have hcz24_2 : w22.cell? ⟨gb178, 2, none⟩ = some (.int .i8 F2) := (blk_cell BK178.out 2).trans rfl; have hfz24_0 := blk_frozen BK178.out 0; have hfz24_1 := blk_frozen BK178.out 1; have hfz24_2 := blk_frozen BK178.out 2; have hcz25_0 : w22.cell? ⟨gb179, 0, none⟩ = some (.int .u8 J0) := (blk_cell BK179.out 0).trans rfl; have hcz25_1 : w22.cell? ⟨gb179, 1, none⟩ = some (.int .u8 J1) := (blk_cell BK179.out 1).trans rfl; have hcz25_2 : w22.cell? ⟨gb179, 2, none⟩ = some (.int .i8 J2) := (blk_cell BK179.out 2).trans rfl; have hfz25_0 := blk_frozen BK179.out 0; have hfz25_1 := blk_frozen BK179.out 1; have hfz25_2 := blk_frozen BK179.out 2))
  go_ret
  exact ⟨by first | rfl | (simp [errW_none, errW_some] <;> rfl) | (simp [*, errW_none, errW_some] <;> rfl), by repeat (first | (with_reducible first | exact HB.out | apply bwA | apply pwN | apply bw1 | refine below_set ?_ GE178.out | refine below_set ?_ GE179.out) | exact HB.out)⟩
end Go.Proofs.YticjkfacdmmopaaDoor.Q
namespace Go.Proofs.YticjkfacdmmopaaDoor.Ext
end Go.Proofs.YticjkfacdmmopaaDoor.Ext
namespace Go.Proofs.YticjkfacdmmopaaDoor.Q
open Go.Proofs.YticjkfacdmmopaaDoor.Ext
open Go.RowKit Go.Proofs.YticjkfacdmmopaaDoorW.PrintWords Go.Proofs.YticjkfacdmmopaaDoorW.PrintLast Go.Proofs.YticjkfacdmmopaaDoorW.PrintMore
attribute [local go_sem] max2_int min2_int max_two min_two max_three min_three max_four min_four
set_option linter.unusedVariables false
set_option linter.unusedSimpArgs false
def impl_unless.f (a0 : Bool) (a1 : Int) : Option (Int) := if a0 = true then (some 0) else (some a1)
set_option maxHeartbeats 8000000 in
set_option maxRecDepth 100000 in
theorem impl_unless.calls (a0 : Bool) (a1 : Int) (r : Int) (w : World) (h : impl_unless.f a0 a1 = some r) :
  Calls Tryd.prog 125 #[.bool a0, .int .i64 a1] w fun e w' => e = .returned (.int .i64 r) ∧ Drawn0 w w' := by
 have H : (if a0 = true then (some 0) else (some a1)) = some r := h
 clear h
 by_cases c3 : a0 = true
 ·subst c3
  rw [if_pos rfl] at H
  have H1 := H
  clear H
  have H := H1
  clear H1
  obtain rfl := Option.some.inj H
  go_enter Tryd.func125, Tryd.ntmps125
  go_wp2
  go_ret
  exact ⟨by first | rfl | (simp; done) | (simp [*]; done), by repeat (first | exact Drawn0.refl _ | apply Drawn0.step)⟩
 ·replace c3 := Bool.eq_false_iff.mpr c3
  subst c3
  rw [if_neg (show ¬ (false = true) by decide)] at H
  have H1 := H
  clear H
  have H := H1
  clear H1
  obtain rfl := Option.some.inj H
  go_enter Tryd.func125, Tryd.ntmps125
  go_wp2
  go_ret
  exact ⟨by first | rfl | (simp; done) | (simp [*]; done), by repeat (first | exact Drawn0.refl _ | apply Drawn0.step)⟩
end Go.Proofs.YticjkfacdmmopaaDoor.Q
namespace Go.Proofs.YticjkfacdmmopaaDoor.Ext
end Go.Proofs.YticjkfacdmmopaaDoor.Ext
namespace Go.Proofs.YticjkfacdmmopaaDoor.Q
open Go.Proofs.YticjkfacdmmopaaDoor.Ext
open Go.RowKit Go.Proofs.YticjkfacdmmopaaDoorW.PrintWords Go.Proofs.YticjkfacdmmopaaDoorW.PrintLast Go.Proofs.YticjkfacdmmopaaDoorW.PrintMore
attribute [local go_sem] max2_int min2_int max_two min_two max_three min_three max_four min_four
set_option linter.unusedVariables false
set_option linter.unusedSimpArgs false
end Go.Proofs.YticjkfacdmmopaaDoor.Q
