/- Contracts and plain laws of functions of the given program; no conditions beside those in the theorems. -/
import Derived.Test.YticjkfacdmmopaaDoorC2LineWide
import Derived.Test.YticjkfacdmmopaaDoorC4LineWide
import Derived.Test.YticjkfacdmmopaaDoorC0LineWide
import Derived.Deep.Slices
namespace Go.Proofs.YticjkfacdmmopaaDoor.Ext
end Go.Proofs.YticjkfacdmmopaaDoor.Ext
namespace Go.Proofs.YticjkfacdmmopaaDoor.Q
open Go.Proofs.YticjkfacdmmopaaDoor.Ext
open Go.RowKit Go.Proofs.YticjkfacdmmopaaDoorW.PrintWords Go.Proofs.YticjkfacdmmopaaDoorW.PrintLast Go.Proofs.YticjkfacdmmopaaDoorW.PrintMore
attribute [local go_sem] max2_int min2_int max_two min_two max_three min_three max_four min_four   -- for this text's walks alone
set_option linter.unusedVariables false
set_option linter.unusedSimpArgs false

/-! ### laws_eqPairS: function 72 -/
def laws_eqPairS.l0 : Nat → List (S137) → List (S137) → Int → Option (Bool)
  | 0, _, _, _ => none
  | k + 1, x0, x1, x5 => if x5 < (x0.length : Int) then (if 0 ≤ x5 then (if x5 < (x1.length : Int) then ((laws_eqPair.f ((rd_T137 x0 x5).f0) ((rd_T137 x0 x5).f1) ((rd_T137 x0 x5).f2) ((rd_T137 x1 x5).f0) ((rd_T137 x1 x5).f1) ((rd_T137 x1 x5).f2)).bind fun t182 => (if t182 = true then (laws_eqPairS.l0 k x0 x1 (wrap64 (x5 + 1))) else (some false))) else (none)) else (none)) else (some true)
def laws_eqPairS.f (k : Nat) (l0 : List (S137)) (l1 : List (S137)) : Option (Bool) := if (l0.length : Int) = (l1.length : Int) then (laws_eqPairS.l0 k l0 l1 0) else (some false)
theorem laws_eqPairS.mono_l : ∀ k, (∀ y0 y1 y2, LeO (laws_eqPairS.l0 k y0 y1 y2) (laws_eqPairS.l0 (k + 1) y0 y1 y2))
  | 0 => fun _ _ _ r h => by simp [laws_eqPairS.l0] at h
  | k + 1 => by
    have ih0 := laws_eqPairS.mono_l k
    · intro y0 y1 y2
      unfold laws_eqPairS.l0
      repeat' first
      | (with_reducible exact ih0 _ _ _)
      | (with_reducible exact LeO.refl _)
      | (with_reducible exact LeO.none _)
      | (with_reducible refine LeO.ite ?_ ?_)
      | (with_reducible refine LeO.bind ?_ (fun _ => ?_))
      | exact ih0 _ _ _
      | exact LeO.none _
      | refine LeO.ite ?_ ?_
      | refine LeO.bind ?_ (fun _ => ?_)
theorem laws_eqPairS.mono : ∀ a0 a1 k, LeO (laws_eqPairS.f k a0 a1) (laws_eqPairS.f (k + 1) a0 a1) := by
  intro a0 a1 k
  have ih0 := laws_eqPairS.mono_l k
  unfold laws_eqPairS.f
  repeat' first
      | (with_reducible exact ih0 _ _ _)
      | (with_reducible exact LeO.refl _)
      | (with_reducible exact LeO.none _)
      | (with_reducible refine LeO.ite ?_ ?_)
      | (with_reducible refine LeO.bind ?_ (fun _ => ?_))
      | exact ih0 _ _ _
      | exact LeO.none _
      | refine LeO.ite ?_ ?_
      | refine LeO.bind ?_ (fun _ => ?_)
def laws_eqPairS.T6 : Bool × List (List Nat × List Nat) := (true, [([], []), ([], []), ([0, 1], [0, 1]), ([2], [2]), ([], []), ([], []), ([4, 5], [4, 5]), ([6], [6]), ([3, 7], [3, 7]), ([8], [8])])
def laws_eqPairS.B6 : List Nat := [0, 0, 3, 7, 0, 0, 48, 112, 255, 511]
theorem laws_eqPairS.tab6 : rtab .any (opsOf Tryd.f72 6) = laws_eqPairS.T6 := by kernel_rfl
theorem laws_eqPairS.bits6 : waitsOk laws_eqPairS.T6.2 laws_eqPairS.B6 = true := by kernel_rfl
set_option maxHeartbeats 8000000 in
set_option maxRecDepth 100000 in
theorem laws_eqPairS.calls (k : Nat) (A0 : Option Addr) (c0 : Nat) (l0 : List (S137)) (A1 : Option Addr) (c1 : Nat) (l1 : List (S137)) (r : Bool) (w : World) (hr0 : Kd.C k137 w A0 l0.length l0) (hc0 : l0.length ≤ c0) (hr1 : Kd.C k137 w A1 l1.length l1) (hc1 : l1.length ≤ c1) (h : laws_eqPairS.f k l0 l1 = some r) :
    Calls Tryd.prog 72 #[.slice A0 l0.length c0, .slice A1 l1.length c1] w fun e w' => e = .returned (.bool r) ∧ Below w.heap.size w w' := by
  have hu137 := Tryd.underlying137
  have HR0 := Aside0.mk hr0
  have HC0 := Aside0.mk hc0
  clear hr0 hc0
  have HR1 := Aside0.mk hr1
  have HC1 := Aside0.mk hc1
  clear hr1 hc1
  have HB := Aside0.mk (Below.refl w.heap.size w)
  have H : (if (l0.length : Int) = (l1.length : Int) then (laws_eqPairS.l0 k l0 l1 0) else (some false)) = some r := h
  clear h
  by_cases c3 : (l0.length : Int) = (l1.length : Int)
  · rw [if_pos c3] at H
    have c3b0 : ((l0.length : Int) == (l1.length : Int)) = true := beq_iff_eq.mpr c3
    have c3b1 : ((l0.length : Int) != (l1.length : Int)) = false := bne_eq_false_iff_eq.mpr c3
    have c3b2 : (l0.length == l1.length) = true := by first | simpa using c3 | (simp at c3 ⊢; omega)
    clear c3
    have H' := Aside0.mk H
    clear H
    go_enter Tryd.func72, Tryd.ntmps72
    go_wp2
    go_loopg [5] k (fun kq v5 w' => ∃ (x5_1 : Int), v5 = .int .i64 x5_1 ∧ Aside0 (laws_eqPairS.l0 kq l0 l1 x5_1 = some r) ∧ Aside0 (kq ≤ k) ∧ Aside0 (Below w.heap.size w w'))
    case atStart => exact ⟨(0), (by first | rfl | (simp; done) | (simp [*]; done)), H', ⟨Nat.le_refl _⟩, ⟨by repeat (first | (with_reducible first | exact HB.out | apply below_alloc | apply pw_below_drewN | apply below_drew1) | exact HB.out)⟩⟩
    case round =>
      clear H'
      try clear c1
      try clear p2
      try clear c3
      try clear c3b0
      try clear c3b1
      try clear c3b2
      obtain ⟨x5_1, rfl, HA, HK1, HB⟩ := hrel
      cases gk with
      | zero => exact absurd HA.out (by simp [laws_eqPairS.l0])
      | succ k1 =>
        have H := HA.out
        clear HA
        simp only [laws_eqPairS.l0] at H
        by_cases c4 : x5_1 < (l0.length : Int)
        · rw [if_pos c4] at H
          have c4b0 : decide (x5_1 < (l0.length : Int)) = true := decide_eq_true c4
          clear c4
          by_cases c5 : 0 ≤ x5_1
          · rw [if_pos c5] at H
            have c5b0 : decide (0 ≤ x5_1) = true := decide_eq_true c5
            clear c5
            by_cases c6 : x5_1 < (l1.length : Int)
            · rw [if_pos c6] at H
              have c6b0 : decide (x5_1 < (l1.length : Int)) = true := decide_eq_true c6
              clear c6
              replace H := Option.bind_eq_some_iff.mp H
              obtain ⟨t182, A70, H⟩ := H
              replace H : (if t182 = true then (laws_eqPairS.l0 k1 l0 l1 (wrap64 (x5_1 + 1))) else (some false)) = some r := H
              have A7 := Aside0.mk A70
              clear A70
              by_cases c8 : t182 = true
              · subst c8
                have H1 : (laws_eqPairS.l0 k1 l0 l1 (wrap64 (x5_1 + 1))) = some r := by rw [if_pos rfl] at H; exact H
                clear H
                have H := H1
                clear H1
                have H' := Aside0.mk H
                clear H
                try go_wp2
                have n0_ := Aside0.mk (below_drew1 HB.out)
                clear HB
                have HB := n0_
                clear n0_
                have p180 : 0 ≤ (x5_1 : Int) := of_decide_eq_true (by first | (with_reducible assumption) | assumption)
                have q180 : x5_1 < (l0.length : Int) := of_decide_eq_true (by first | (with_reducible assumption) | assumption)
                obtain ⟨ad180, e180, hx180_0, hx180_1, hx180_2⟩ := at_T137 HR0.out x5_1 p180 q180
                have hw180_2 := hx180_2
                have hw180_1 := hx180_1
                have hw180_0 := hx180_0
                cases e180
                replace hx180_0 := (HB.out.cell (World.block_lt_of_cell? w _ hx180_0)).trans hx180_0
                replace hx180_1 := (HB.out.cell (World.block_lt_of_cell? w _ hx180_1)).trans hx180_1
                replace hx180_2 := (HB.out.cell (World.block_lt_of_cell? w _ hx180_2)).trans hx180_2
                replace p180 := eq_true p180
                replace q180 := eq_true q180
                have p181 : 0 ≤ (x5_1 : Int) := of_decide_eq_true (by first | (with_reducible assumption) | assumption)
                have q181 : x5_1 < (l1.length : Int) := of_decide_eq_true (by first | (with_reducible assumption) | assumption)
                obtain ⟨ad181, e181, hx181_0, hx181_1, hx181_2⟩ := at_T137 HR1.out x5_1 p181 q181
                have hw181_2 := hx181_2
                have hw181_1 := hx181_1
                have hw181_0 := hx181_0
                cases e181
                replace hx181_0 := (HB.out.cell (World.block_lt_of_cell? w _ hx181_0)).trans hx181_0
                replace hx181_1 := (HB.out.cell (World.block_lt_of_cell? w _ hx181_1)).trans hx181_1
                replace hx181_2 := (HB.out.cell (World.block_lt_of_cell? w _ hx181_2)).trans hx181_2
                replace p181 := eq_true p181
                replace q181 := eq_true q181
                refine start_ (n := 10) (S := fun w' => w'.cell? (ad180.add ((x5_1).toNat * 3)) = some (.int .u8 ((rd_T137 l0 x5_1).f0)) ∧ w'.cell? ⟨(ad180.add ((x5_1).toNat * 3)).block, (ad180.add ((x5_1).toNat * 3)).off + 1, none⟩ = some (.int .u8 ((rd_T137 l0 x5_1).f1)) ∧ w'.cell? ⟨(ad180.add ((x5_1).toNat * 3)).block, (ad180.add ((x5_1).toNat * 3)).off + 2, none⟩ = some (.int .i8 ((rd_T137 l0 x5_1).f2)) ∧ w'.cell? (ad181.add ((x5_1).toNat * 3)) = some (.int .u8 ((rd_T137 l1 x5_1).f0)) ∧ w'.cell? ⟨(ad181.add ((x5_1).toNat * 3)).block, (ad181.add ((x5_1).toNat * 3)).off + 1, none⟩ = some (.int .u8 ((rd_T137 l1 x5_1).f1)) ∧ w'.cell? ⟨(ad181.add ((x5_1).toNat * 3)).block, (ad181.add ((x5_1).toNat * 3)).off + 2, none⟩ = some (.int .i8 ((rd_T137 l1 x5_1).f2))) (ds := []) #[false, false, false, false, false, false, false, false, false, false] (by kernel_rfl) rfl rfl ⟨((HB.out.cell (World.block_lt_of_cell? w _ hw180_0)).trans hw180_0), ((HB.out.cell (World.block_lt_of_cell? w _ hw180_1)).trans hw180_1), ((HB.out.cell (World.block_lt_of_cell? w _ hw180_2)).trans hw180_2), ((HB.out.cell (World.block_lt_of_cell? w _ hw181_0)).trans hw181_0), ((HB.out.cell (World.block_lt_of_cell? w _ hw181_1)).trans hw181_1), ((HB.out.cell (World.block_lt_of_cell? w _ hw181_2)).trans hw181_2)⟩ (fun hHeld => ?_); refine with_tabW laws_eqPairS.tab6 laws_eqPairS.bits6 (fun HT_ HW_ => ?_)
                generalize wr.drew = w9 at HB hx180_0 hx180_1 hx180_2 hx181_0 hx181_1 hx181_2 hHeld ⊢
                refine pure_ (i := 0) (N := some 17) (v := ?_) (a' := ?_) #[true, false, false, false, false, false, false, false, false, false] rfl rfl (any_of HT_.out (by kernel_rfl)) (fun _ _ _ h => h) (Or.inl ⟨by rfl, ?_⟩) ?_ ?_
                rotate_left
                · intro w'
                  go_simp
                  with_reducible rfl
                rotate_left
                · simp only [Act.put, List.setIfInBounds_toArray, List.set_cons_zero, List.set_cons_succ, i64_w, i32_w, u8_w_]
                  rfl
                refine pure_ (i := 1) (N := some 18) (v := ?_) (a' := ?_) #[true, true, false, false, false, false, false, false, false, false] rfl rfl (any_of HT_.out (by kernel_rfl)) (fun _ _ _ h => h) (Or.inl ⟨by rfl, ?_⟩) ?_ ?_
                rotate_left
                · intro w'
                  go_simp
                  with_reducible rfl
                rotate_left
                · simp only [Act.put, List.setIfInBounds_toArray, List.set_cons_zero, List.set_cons_succ, i64_w, i32_w, u8_w_]
                  rfl
                refine pure_ (i := 2) (N := some 19) (v := ?_) (a' := ?_) #[true, true, true, false, false, false, false, false, false, false] rfl rfl (any_of HT_.out (by kernel_rfl)) (fun _ _ _ h => h) (Or.inl ⟨by rfl, ?_⟩) ?_ ?_
                rotate_left
                · intro w'
                  go_simp
                  with_reducible rfl
                rotate_left
                · simp only [Act.put, List.setIfInBounds_toArray, List.set_cons_zero, List.set_cons_succ, i64_w, i32_w, u8_w_]
                  rfl
                refine pure_ (i := 4) (N := some 21) (v := ?_) (a' := ?_) #[true, true, true, false, true, false, false, false, false, false] rfl rfl (any_of HT_.out (by kernel_rfl)) (fun _ _ _ h => h) (Or.inl ⟨by rfl, ?_⟩) ?_ ?_
                rotate_left
                · intro w'
                  go_simp
                  with_reducible rfl
                rotate_left
                · simp only [Act.put, List.setIfInBounds_toArray, List.set_cons_zero, List.set_cons_succ, i64_w, i32_w, u8_w_]
                  rfl
                refine pure_ (i := 5) (N := some 22) (v := ?_) (a' := ?_) #[true, true, true, false, true, true, false, false, false, false] rfl rfl (any_of HT_.out (by kernel_rfl)) (fun _ _ _ h => h) (Or.inl ⟨by rfl, ?_⟩) ?_ ?_
                rotate_left
                · intro w'
                  go_simp
                  with_reducible rfl
                rotate_left
                · simp only [Act.put, List.setIfInBounds_toArray, List.set_cons_zero, List.set_cons_succ, i64_w, i32_w, u8_w_]
                  rfl
                refine pure_ (i := 6) (N := some 23) (v := ?_) (a' := ?_) #[true, true, true, false, true, true, true, false, false, false] rfl rfl (any_of HT_.out (by kernel_rfl)) (fun _ _ _ h => h) (Or.inl ⟨by rfl, ?_⟩) ?_ ?_
                rotate_left
                · intro w'
                  go_simp
                  with_reducible rfl
                rotate_left
                · simp only [Act.put, List.setIfInBounds_toArray, List.set_cons_zero, List.set_cons_succ, i64_w, i32_w, u8_w_]
                  rfl
                refine take_ (i := 3) (N := some 20) (v := ?_) (a' := ?_) #[true, true, true, true, true, true, true, false, false, false] rfl rfl (take_ofW HT_.out HW_.out (by kernel_rfl)) (fun _ _ _ h => h) (Or.inl ⟨by rfl, ?_⟩) hHeld ?_ ?_
                rotate_left
                · rintro w' ⟨s0, s1, s2, s3, s4, s5⟩
                  go_simp
                  with_reducible rfl
                rotate_left
                · simp only [Act.put, List.setIfInBounds_toArray, List.set_cons_zero, List.set_cons_succ, i64_w, i32_w, u8_w_]
                  rfl
                refine take_ (i := 7) (N := some 24) (v := ?_) (a' := ?_) #[true, true, true, true, true, true, true, true, false, false] rfl rfl (take_ofW HT_.out HW_.out (by kernel_rfl)) (fun _ _ _ h => h) (Or.inl ⟨by rfl, ?_⟩) hHeld ?_ ?_
                rotate_left
                · rintro w' ⟨s0, s1, s2, s3, s4, s5⟩
                  go_simp
                  with_reducible rfl
                rotate_left
                · simp only [Act.put, List.setIfInBounds_toArray, List.set_cons_zero, List.set_cons_succ, i64_w, i32_w, u8_w_]
                  rfl
                refine one_ (i := 8) (N := some 25) #[true, true, true, true, true, true, true, true, true, false] rfl rfl (one_of HT_.out (by kernel_rfl)) (by decide) (fun K hK => ?_)
                refine goes_ Tryd.func123 (by kernel_rfl) rfl #[.agg #[.int .u8 ((rd_T137 l0 x5_1).f0), .int .u8 ((rd_T137 l0 x5_1).f1), .int .i8 ((rd_T137 l0 x5_1).f2)], .agg #[.int .u8 ((rd_T137 l1 x5_1).f0), .int .u8 ((rd_T137 l1 x5_1).f1), .int .i8 ((rd_T137 l1 x5_1).f2)]] (by rfl) rfl rfl (by (try simp only [List.map_toArray, List.map_cons, List.map_nil]); first | done | rfl | (simp only [List.length_drop, List.length_take]; rfl)) ?_
                with_reducible refine (laws_eqPair.calls ((rd_T137 l0 x5_1).f0) ((rd_T137 l0 x5_1).f1) ((rd_T137 l0 x5_1).f2) ((rd_T137 l1 x5_1).f0) ((rd_T137 l1 x5_1).f1) ((rd_T137 l1 x5_1).f2) true _ A7.out).mono ?_
                rintro e w10 ⟨rfl, hb⟩
                refine ⟨_, rfl, ?_⟩
                have n0_ := Aside0.mk (below_step (by repeat (first | (with_reducible first | exact HB.out | apply below_alloc | apply pw_below_drewN | apply below_drew1) | exact HB.out)) hb)
                clear HB
                have HB := n0_
                clear n0_
                (try clear hb)
                (try clear hb2)
                (try clear hk)
                (try clear hi)
                refine hK.out _ _ ⟨((HB.out.cell (World.block_lt_of_cell? w _ hw180_0)).trans hw180_0), ((HB.out.cell (World.block_lt_of_cell? w _ hw180_1)).trans hw180_1), ((HB.out.cell (World.block_lt_of_cell? w _ hw180_2)).trans hw180_2), ((HB.out.cell (World.block_lt_of_cell? w _ hw181_0)).trans hw181_0), ((HB.out.cell (World.block_lt_of_cell? w _ hw181_1)).trans hw181_1), ((HB.out.cell (World.block_lt_of_cell? w _ hw181_2)).trans hw181_2)⟩ (fun hHeld => ?_)
                clear hK K
                refine norm_ (a' := ?_) ?_ ?_
                rotate_left
                · show Act.put _ (some 25) _ = _
                  simp only [Act.put, List.setIfInBounds_toArray, List.set_cons_zero, List.set_cons_succ, i64_w, i32_w, u8_w_]
                  rfl
                refine pure_ (i := 9) (N := some 26) (v := ?_) (a' := ?_) #[true, true, true, true, true, true, true, true, true, true] rfl rfl (any_of HT_.out (by kernel_rfl)) (fun _ _ _ h => h) (Or.inl ⟨by rfl, ?_⟩) ?_ ?_
                rotate_left
                · intro w'
                  go_simp
                  with_reducible rfl
                rotate_left
                · simp only [Act.put, List.setIfInBounds_toArray, List.set_cons_zero, List.set_cons_succ, i64_w, i32_w, u8_w_]
                  rfl
                refine done_ (done_of HT_.out (by kernel_rfl)) ?_
                try go_wp2
                go_roundg k1
                case measure => have := HK1.out; omega
                case rel => exact ⟨(wrap64 (x5_1 + 1)), (by first | rfl | (simp; done) | (simp [*]; done)), H', ⟨by have := HK1.out; omega⟩, ⟨by repeat (first | (with_reducible first | exact HB.out | apply below_alloc | apply pw_below_drewN | apply below_drew1) | exact HB.out)⟩⟩
              · replace c8 := Bool.eq_false_iff.mpr c8
                subst c8
                have H1 : (some false) = some r := by rw [if_neg (show ¬ (false = true) by decide)] at H; exact H
                clear H
                have H := H1
                clear H1
                obtain rfl := Option.some.inj H
                try go_wp2
                have n0_ := Aside0.mk (below_drew1 HB.out)
                clear HB
                have HB := n0_
                clear n0_
                have p180 : 0 ≤ (x5_1 : Int) := of_decide_eq_true (by first | (with_reducible assumption) | assumption)
                have q180 : x5_1 < (l0.length : Int) := of_decide_eq_true (by first | (with_reducible assumption) | assumption)
                obtain ⟨ad180, e180, hx180_0, hx180_1, hx180_2⟩ := at_T137 HR0.out x5_1 p180 q180
                have hw180_2 := hx180_2
                have hw180_1 := hx180_1
                have hw180_0 := hx180_0
                cases e180
                replace hx180_0 := (HB.out.cell (World.block_lt_of_cell? w _ hx180_0)).trans hx180_0
                replace hx180_1 := (HB.out.cell (World.block_lt_of_cell? w _ hx180_1)).trans hx180_1
                replace hx180_2 := (HB.out.cell (World.block_lt_of_cell? w _ hx180_2)).trans hx180_2
                replace p180 := eq_true p180
                replace q180 := eq_true q180
                have p181 : 0 ≤ (x5_1 : Int) := of_decide_eq_true (by first | (with_reducible assumption) | assumption)
                have q181 : x5_1 < (l1.length : Int) := of_decide_eq_true (by first | (with_reducible assumption) | assumption)
                obtain ⟨ad181, e181, hx181_0, hx181_1, hx181_2⟩ := at_T137 HR1.out x5_1 p181 q181
                have hw181_2 := hx181_2
                have hw181_1 := hx181_1
                have hw181_0 := hx181_0
                cases e181
                replace hx181_0 := (HB.out.cell (World.block_lt_of_cell? w _ hx181_0)).trans hx181_0
                replace hx181_1 := (HB.out.cell (World.block_lt_of_cell? w _ hx181_1)).trans hx181_1
                replace hx181_2 := (HB.out.cell (World.block_lt_of_cell? w _ hx181_2)).trans hx181_2
                replace p181 := eq_true p181
                replace q181 := eq_true q181
                refine start_ (n := 10) (S := fun w' => w'.cell? (ad180.add ((x5_1).toNat * 3)) = some (.int .u8 ((rd_T137 l0 x5_1).f0)) ∧ w'.cell? ⟨(ad180.add ((x5_1).toNat * 3)).block, (ad180.add ((x5_1).toNat * 3)).off + 1, none⟩ = some (.int .u8 ((rd_T137 l0 x5_1).f1)) ∧ w'.cell? ⟨(ad180.add ((x5_1).toNat * 3)).block, (ad180.add ((x5_1).toNat * 3)).off + 2, none⟩ = some (.int .i8 ((rd_T137 l0 x5_1).f2)) ∧ w'.cell? (ad181.add ((x5_1).toNat * 3)) = some (.int .u8 ((rd_T137 l1 x5_1).f0)) ∧ w'.cell? ⟨(ad181.add ((x5_1).toNat * 3)).block, (ad181.add ((x5_1).toNat * 3)).off + 1, none⟩ = some (.int .u8 ((rd_T137 l1 x5_1).f1)) ∧ w'.cell? ⟨(ad181.add ((x5_1).toNat * 3)).block, (ad181.add ((x5_1).toNat * 3)).off + 2, none⟩ = some (.int .i8 ((rd_T137 l1 x5_1).f2))) (ds := []) #[false, false, false, false, false, false, false, false, false, false] (by kernel_rfl) rfl rfl ⟨((HB.out.cell (World.block_lt_of_cell? w _ hw180_0)).trans hw180_0), ((HB.out.cell (World.block_lt_of_cell? w _ hw180_1)).trans hw180_1), ((HB.out.cell (World.block_lt_of_cell? w _ hw180_2)).trans hw180_2), ((HB.out.cell (World.block_lt_of_cell? w _ hw181_0)).trans hw181_0), ((HB.out.cell (World.block_lt_of_cell? w _ hw181_1)).trans hw181_1), ((HB.out.cell (World.block_lt_of_cell? w _ hw181_2)).trans hw181_2)⟩ (fun hHeld => ?_); refine with_tabW laws_eqPairS.tab6 laws_eqPairS.bits6 (fun HT_ HW_ => ?_)
                generalize wr.drew = w11 at HB hx180_0 hx180_1 hx180_2 hx181_0 hx181_1 hx181_2 hHeld ⊢
                refine pure_ (i := 0) (N := some 17) (v := ?_) (a' := ?_) #[true, false, false, false, false, false, false, false, false, false] rfl rfl (any_of HT_.out (by kernel_rfl)) (fun _ _ _ h => h) (Or.inl ⟨by rfl, ?_⟩) ?_ ?_
                rotate_left
                · intro w'
                  go_simp
                  with_reducible rfl
                rotate_left
                · simp only [Act.put, List.setIfInBounds_toArray, List.set_cons_zero, List.set_cons_succ, i64_w, i32_w, u8_w_]
                  rfl
                refine pure_ (i := 1) (N := some 18) (v := ?_) (a' := ?_) #[true, true, false, false, false, false, false, false, false, false] rfl rfl (any_of HT_.out (by kernel_rfl)) (fun _ _ _ h => h) (Or.inl ⟨by rfl, ?_⟩) ?_ ?_
                rotate_left
                · intro w'
                  go_simp
                  with_reducible rfl
                rotate_left
                · simp only [Act.put, List.setIfInBounds_toArray, List.set_cons_zero, List.set_cons_succ, i64_w, i32_w, u8_w_]
                  rfl
                refine pure_ (i := 2) (N := some 19) (v := ?_) (a' := ?_) #[true, true, true, false, false, false, false, false, false, false] rfl rfl (any_of HT_.out (by kernel_rfl)) (fun _ _ _ h => h) (Or.inl ⟨by rfl, ?_⟩) ?_ ?_
                rotate_left
                · intro w'
                  go_simp
                  with_reducible rfl
                rotate_left
                · simp only [Act.put, List.setIfInBounds_toArray, List.set_cons_zero, List.set_cons_succ, i64_w, i32_w, u8_w_]
                  rfl
                refine pure_ (i := 4) (N := some 21) (v := ?_) (a' := ?_) #[true, true, true, false, true, false, false, false, false, false] rfl rfl (any_of HT_.out (by kernel_rfl)) (fun _ _ _ h => h) (Or.inl ⟨by rfl, ?_⟩) ?_ ?_
                rotate_left
                · intro w'
                  go_simp
                  with_reducible rfl
                rotate_left
                · simp only [Act.put, List.setIfInBounds_toArray, List.set_cons_zero, List.set_cons_succ, i64_w, i32_w, u8_w_]
                  rfl
                refine pure_ (i := 5) (N := some 22) (v := ?_) (a' := ?_) #[true, true, true, false, true, true, false, false, false, false] rfl rfl (any_of HT_.out (by kernel_rfl)) (fun _ _ _ h => h) (Or.inl ⟨by rfl, ?_⟩) ?_ ?_
                rotate_left
                · intro w'
                  go_simp
                  with_reducible rfl
                rotate_left
                · simp only [Act.put, List.setIfInBounds_toArray, List.set_cons_zero, List.set_cons_succ, i64_w, i32_w, u8_w_]
                  rfl
                refine pure_ (i := 6) (N := some 23) (v := ?_) (a' := ?_) #[true, true, true, false, true, true, true, false, false, false] rfl rfl (any_of HT_.out (by kernel_rfl)) (fun _ _ _ h => h) (Or.inl ⟨by rfl, ?_⟩) ?_ ?_
                rotate_left
                · intro w'
                  go_simp
                  with_reducible rfl
                rotate_left
                · simp only [Act.put, List.setIfInBounds_toArray, List.set_cons_zero, List.set_cons_succ, i64_w, i32_w, u8_w_]
                  rfl
                refine take_ (i := 3) (N := some 20) (v := ?_) (a' := ?_) #[true, true, true, true, true, true, true, false, false, false] rfl rfl (take_ofW HT_.out HW_.out (by kernel_rfl)) (fun _ _ _ h => h) (Or.inl ⟨by rfl, ?_⟩) hHeld ?_ ?_
                rotate_left
                · rintro w' ⟨s0, s1, s2, s3, s4, s5⟩
                  go_simp
                  with_reducible rfl
                rotate_left
                · simp only [Act.put, List.setIfInBounds_toArray, List.set_cons_zero, List.set_cons_succ, i64_w, i32_w, u8_w_]
                  rfl
                refine take_ (i := 7) (N := some 24) (v := ?_) (a' := ?_) #[true, true, true, true, true, true, true, true, false, false] rfl rfl (take_ofW HT_.out HW_.out (by kernel_rfl)) (fun _ _ _ h => h) (Or.inl ⟨by rfl, ?_⟩) hHeld ?_ ?_
                rotate_left
                · rintro w' ⟨s0, s1, s2, s3, s4, s5⟩
                  go_simp
                  with_reducible rfl
                rotate_left
                · simp only [Act.put, List.setIfInBounds_toArray, List.set_cons_zero, List.set_cons_succ, i64_w, i32_w, u8_w_]
                  rfl
                refine one_ (i := 8) (N := some 25) #[true, true, true, true, true, true, true, true, true, false] rfl rfl (one_of HT_.out (by kernel_rfl)) (by decide) (fun K hK => ?_)
                refine goes_ Tryd.func123 (by kernel_rfl) rfl #[.agg #[.int .u8 ((rd_T137 l0 x5_1).f0), .int .u8 ((rd_T137 l0 x5_1).f1), .int .i8 ((rd_T137 l0 x5_1).f2)], .agg #[.int .u8 ((rd_T137 l1 x5_1).f0), .int .u8 ((rd_T137 l1 x5_1).f1), .int .i8 ((rd_T137 l1 x5_1).f2)]] (by rfl) rfl rfl (by (try simp only [List.map_toArray, List.map_cons, List.map_nil]); first | done | rfl | (simp only [List.length_drop, List.length_take]; rfl)) ?_
                with_reducible refine (laws_eqPair.calls ((rd_T137 l0 x5_1).f0) ((rd_T137 l0 x5_1).f1) ((rd_T137 l0 x5_1).f2) ((rd_T137 l1 x5_1).f0) ((rd_T137 l1 x5_1).f1) ((rd_T137 l1 x5_1).f2) false _ A7.out).mono ?_
                rintro e w12 ⟨rfl, hb⟩
                refine ⟨_, rfl, ?_⟩
                have n0_ := Aside0.mk (below_step (by repeat (first | (with_reducible first | exact HB.out | apply below_alloc | apply pw_below_drewN | apply below_drew1) | exact HB.out)) hb)
                clear HB
                have HB := n0_
                clear n0_
                (try clear hb)
                (try clear hb2)
                (try clear hk)
                (try clear hi)
                refine hK.out _ _ ⟨((HB.out.cell (World.block_lt_of_cell? w _ hw180_0)).trans hw180_0), ((HB.out.cell (World.block_lt_of_cell? w _ hw180_1)).trans hw180_1), ((HB.out.cell (World.block_lt_of_cell? w _ hw180_2)).trans hw180_2), ((HB.out.cell (World.block_lt_of_cell? w _ hw181_0)).trans hw181_0), ((HB.out.cell (World.block_lt_of_cell? w _ hw181_1)).trans hw181_1), ((HB.out.cell (World.block_lt_of_cell? w _ hw181_2)).trans hw181_2)⟩ (fun hHeld => ?_)
                clear hK K
                refine norm_ (a' := ?_) ?_ ?_
                rotate_left
                · show Act.put _ (some 25) _ = _
                  simp only [Act.put, List.setIfInBounds_toArray, List.set_cons_zero, List.set_cons_succ, i64_w, i32_w, u8_w_]
                  rfl
                refine pure_ (i := 9) (N := some 26) (v := ?_) (a' := ?_) #[true, true, true, true, true, true, true, true, true, true] rfl rfl (any_of HT_.out (by kernel_rfl)) (fun _ _ _ h => h) (Or.inl ⟨by rfl, ?_⟩) ?_ ?_
                rotate_left
                · intro w'
                  go_simp
                  with_reducible rfl
                rotate_left
                · simp only [Act.put, List.setIfInBounds_toArray, List.set_cons_zero, List.set_cons_succ, i64_w, i32_w, u8_w_]
                  rfl
                refine done_ (done_of HT_.out (by kernel_rfl)) ?_
                try go_wp2
                go_ret
                exact ⟨by first | rfl | (simp [errW_none, errW_some] <;> rfl) | (simp [*, errW_none, errW_some] <;> rfl), by repeat (first | (with_reducible first | exact HB.out | apply below_alloc | apply pw_below_drewN | apply below_drew1) | exact HB.out)⟩
            · rw [if_neg c6] at H
              exact absurd H (by simp)
          · rw [if_neg c5] at H
            exact absurd H (by simp)
        · rw [if_neg c4] at H
          have c4b0 : decide (x5_1 < (l0.length : Int)) = false := decide_eq_false c4
          clear c4
          obtain rfl := Option.some.inj H
          go_wp2
          go_ret
          exact ⟨by first | rfl | (simp [errW_none, errW_some] <;> rfl) | (simp [*, errW_none, errW_some] <;> rfl), by repeat (first | (with_reducible first | exact HB.out | apply below_alloc | apply pw_below_drewN | apply below_drew1) | exact HB.out)⟩
  · rw [if_neg c3] at H
    have c3b0 : ((l0.length : Int) == (l1.length : Int)) = false := beq_eq_false_iff_ne.mpr c3
    have c3b1 : ((l0.length : Int) != (l1.length : Int)) = true := bne_iff_ne.mpr c3
    have c3b2 : (l0.length == l1.length) = false := by first | simpa using c3 | (simp at c3 ⊢; omega)
    obtain rfl := Option.some.inj H
    go_enter Tryd.func72, Tryd.ntmps72
    go_wp2
    go_ret
    exact ⟨by first | rfl | (simp [errW_none, errW_some] <;> rfl) | (simp [*, errW_none, errW_some] <;> rfl), by repeat (first | (with_reducible first | exact HB.out | apply below_alloc | apply pw_below_drewN | apply below_drew1) | exact HB.out)⟩

/-! ### laws_eqFace: function 22 -/
def laws_eqFace.f (k : Nat) (a0_0 a0_1 a0_2 a0_3 a0_4 a0_5 a0_6 a0_7 a0_8 a0_9 a0_10 a0_11 a0_12 a0_13 a0_14 a0_15 a0_16 a0_17 a0_18 a0_19 a0_20 a0_21 a0_22 a0_23 a0_24 a0_25 a0_26 a0_27 : Int) (l0_28 : List (S137)) (a1_0 a1_1 a1_2 a1_3 a1_4 a1_5 a1_6 a1_7 a1_8 a1_9 a1_10 a1_11 a1_12 a1_13 a1_14 a1_15 a1_16 a1_17 a1_18 a1_19 a1_20 a1_21 a1_22 a1_23 a1_24 a1_25 a1_26 a1_27 : Int) (l1_28 : List (S137)) : Option (Bool) := (laws_eqInt8A26.f k a0_0 a0_1 a0_2 a0_3 a0_4 a0_5 a0_6 a0_7 a0_8 a0_9 a0_10 a0_11 a0_12 a0_13 a0_14 a0_15 a0_16 a0_17 a0_18 a0_19 a0_20 a0_21 a0_22 a0_23 a0_24 a0_25 a1_0 a1_1 a1_2 a1_3 a1_4 a1_5 a1_6 a1_7 a1_8 a1_9 a1_10 a1_11 a1_12 a1_13 a1_14 a1_15 a1_16 a1_17 a1_18 a1_19 a1_20 a1_21 a1_22 a1_23 a1_24 a1_25).bind fun t185 => (if t185 = true then (if a0_26 = a1_26 then (if a0_27 = a1_27 then ((laws_eqPairS.f k l0_28 l1_28).bind fun t186 => (if t186 = true then (some true) else (some false))) else (some false)) else (some false)) else (some false))
theorem laws_eqFace.mono : ∀ a0 a1 a2 a3 a4 a5 a6 a7 a8 a9 a10 a11 a12 a13 a14 a15 a16 a17 a18 a19 a20 a21 a22 a23 a24 a25 a26 a27 a28 a29 a30 a31 a32 a33 a34 a35 a36 a37 a38 a39 a40 a41 a42 a43 a44 a45 a46 a47 a48 a49 a50 a51 a52 a53 a54 a55 a56 a57 k, LeO (laws_eqFace.f k a0 a1 a2 a3 a4 a5 a6 a7 a8 a9 a10 a11 a12 a13 a14 a15 a16 a17 a18 a19 a20 a21 a22 a23 a24 a25 a26 a27 a28 a29 a30 a31 a32 a33 a34 a35 a36 a37 a38 a39 a40 a41 a42 a43 a44 a45 a46 a47 a48 a49 a50 a51 a52 a53 a54 a55 a56 a57) (laws_eqFace.f (k + 1) a0 a1 a2 a3 a4 a5 a6 a7 a8 a9 a10 a11 a12 a13 a14 a15 a16 a17 a18 a19 a20 a21 a22 a23 a24 a25 a26 a27 a28 a29 a30 a31 a32 a33 a34 a35 a36 a37 a38 a39 a40 a41 a42 a43 a44 a45 a46 a47 a48 a49 a50 a51 a52 a53 a54 a55 a56 a57) := by
  intro a0 a1 a2 a3 a4 a5 a6 a7 a8 a9 a10 a11 a12 a13 a14 a15 a16 a17 a18 a19 a20 a21 a22 a23 a24 a25 a26 a27 a28 a29 a30 a31 a32 a33 a34 a35 a36 a37 a38 a39 a40 a41 a42 a43 a44 a45 a46 a47 a48 a49 a50 a51 a52 a53 a54 a55 a56 a57 k
  unfold laws_eqFace.f
  repeat' first
      | (with_reducible exact laws_eqInt8A26.mono _ _ _ _ _ _ _ _ _ _ _ _ _ _ _ _ _ _ _ _ _ _ _ _ _ _ _ _ _ _ _ _ _ _ _ _ _ _ _ _ _ _ _ _ _ _ _ _ _ _ _ _ _)
      | (with_reducible exact laws_eqPairS.mono _ _ _)
      | (with_reducible exact LeO.refl _)
      | (with_reducible exact LeO.none _)
      | (with_reducible refine LeO.ite ?_ ?_)
      | (with_reducible refine LeO.bind ?_ (fun _ => ?_))
      | exact laws_eqInt8A26.mono _ _ _ _ _ _ _ _ _ _ _ _ _ _ _ _ _ _ _ _ _ _ _ _ _ _ _ _ _ _ _ _ _ _ _ _ _ _ _ _ _ _ _ _ _ _ _ _ _ _ _ _ _
      | exact laws_eqPairS.mono _ _ _
      | exact LeO.none _
      | refine LeO.ite ?_ ?_
      | refine LeO.bind ?_ (fun _ => ?_)
set_option maxHeartbeats 8000000 in
set_option maxRecDepth 100000 in
theorem laws_eqFace.calls (k : Nat) (a0_0 a0_1 a0_2 a0_3 a0_4 a0_5 a0_6 a0_7 a0_8 a0_9 a0_10 a0_11 a0_12 a0_13 a0_14 a0_15 a0_16 a0_17 a0_18 a0_19 a0_20 a0_21 a0_22 a0_23 a0_24 a0_25 a0_26 a0_27 : Int) (A0_28 : Option Addr) (c0_28 : Nat) (l0_28 : List (S137)) (a1_0 a1_1 a1_2 a1_3 a1_4 a1_5 a1_6 a1_7 a1_8 a1_9 a1_10 a1_11 a1_12 a1_13 a1_14 a1_15 a1_16 a1_17 a1_18 a1_19 a1_20 a1_21 a1_22 a1_23 a1_24 a1_25 a1_26 a1_27 : Int) (A1_28 : Option Addr) (c1_28 : Nat) (l1_28 : List (S137)) (r : Bool) (w : World) (hr0_28 : Kd.C k137 w A0_28 l0_28.length l0_28) (hc0_28 : l0_28.length ≤ c0_28) (hr1_28 : Kd.C k137 w A1_28 l1_28.length l1_28) (hc1_28 : l1_28.length ≤ c1_28) (h : laws_eqFace.f k a0_0 a0_1 a0_2 a0_3 a0_4 a0_5 a0_6 a0_7 a0_8 a0_9 a0_10 a0_11 a0_12 a0_13 a0_14 a0_15 a0_16 a0_17 a0_18 a0_19 a0_20 a0_21 a0_22 a0_23 a0_24 a0_25 a0_26 a0_27 l0_28 a1_0 a1_1 a1_2 a1_3 a1_4 a1_5 a1_6 a1_7 a1_8 a1_9 a1_10 a1_11 a1_12 a1_13 a1_14 a1_15 a1_16 a1_17 a1_18 a1_19 a1_20 a1_21 a1_22 a1_23 a1_24 a1_25 a1_26 a1_27 l1_28 = some r) :
    Calls Tryd.prog 22 #[.agg #[.int .i8 a0_0, .int .i8 a0_1, .int .i8 a0_2, .int .i8 a0_3, .int .i8 a0_4, .int .i8 a0_5, .int .i8 a0_6, .int .i8 a0_7, .int .i8 a0_8, .int .i8 a0_9, .int .i8 a0_10, .int .i8 a0_11, .int .i8 a0_12, .int .i8 a0_13, .int .i8 a0_14, .int .i8 a0_15, .int .i8 a0_16, .int .i8 a0_17, .int .i8 a0_18, .int .i8 a0_19, .int .i8 a0_20, .int .i8 a0_21, .int .i8 a0_22, .int .i8 a0_23, .int .i8 a0_24, .int .i8 a0_25, .int .i8 a0_26, .int .i8 a0_27, .slice A0_28 l0_28.length c0_28], .agg #[.int .i8 a1_0, .int .i8 a1_1, .int .i8 a1_2, .int .i8 a1_3, .int .i8 a1_4, .int .i8 a1_5, .int .i8 a1_6, .int .i8 a1_7, .int .i8 a1_8, .int .i8 a1_9, .int .i8 a1_10, .int .i8 a1_11, .int .i8 a1_12, .int .i8 a1_13, .int .i8 a1_14, .int .i8 a1_15, .int .i8 a1_16, .int .i8 a1_17, .int .i8 a1_18, .int .i8 a1_19, .int .i8 a1_20, .int .i8 a1_21, .int .i8 a1_22, .int .i8 a1_23, .int .i8 a1_24, .int .i8 a1_25, .int .i8 a1_26, .int .i8 a1_27, .slice A1_28 l1_28.length c1_28]] w fun e w' => e = .returned (.bool r) ∧ Below w.heap.size w w' := by
  have hu32 := Tryd.underlying32
  have hu23 := Tryd.underlying23
  have HR0_28 := Aside0.mk hr0_28
  have HC0_28 := Aside0.mk hc0_28
  clear hr0_28 hc0_28
  have HR1_28 := Aside0.mk hr1_28
  have HC1_28 := Aside0.mk hc1_28
  clear hr1_28 hc1_28
  have HB := Aside0.mk (Below.refl w.heap.size w)
  have H : ((laws_eqInt8A26.f k a0_0 a0_1 a0_2 a0_3 a0_4 a0_5 a0_6 a0_7 a0_8 a0_9 a0_10 a0_11 a0_12 a0_13 a0_14 a0_15 a0_16 a0_17 a0_18 a0_19 a0_20 a0_21 a0_22 a0_23 a0_24 a0_25 a1_0 a1_1 a1_2 a1_3 a1_4 a1_5 a1_6 a1_7 a1_8 a1_9 a1_10 a1_11 a1_12 a1_13 a1_14 a1_15 a1_16 a1_17 a1_18 a1_19 a1_20 a1_21 a1_22 a1_23 a1_24 a1_25).bind fun t185 => (if t185 = true then (if a0_26 = a1_26 then (if a0_27 = a1_27 then ((laws_eqPairS.f k l0_28 l1_28).bind fun t186 => (if t186 = true then (some true) else (some false))) else (some false)) else (some false)) else (some false))) = some r := h
  clear h
  replace H := Option.bind_eq_some_iff.mp H
  obtain ⟨t185, A30, H⟩ := H
  replace H : (if t185 = true then (if a0_26 = a1_26 then (if a0_27 = a1_27 then ((laws_eqPairS.f k l0_28 l1_28).bind fun t186 => (if t186 = true then (some true) else (some false))) else (some false)) else (some false)) else (some false)) = some r := H
  have A3 := Aside0.mk A30
  clear A30
  by_cases c4 : t185 = true
  · subst c4
    have H1 : (if a0_26 = a1_26 then (if a0_27 = a1_27 then ((laws_eqPairS.f k l0_28 l1_28).bind fun t186 => (if t186 = true then (some true) else (some false))) else (some false)) else (some false)) = some r := by rw [if_pos rfl] at H; exact H
    clear H
    have H := H1
    clear H1
    by_cases c5 : a0_26 = a1_26
    · rw [if_pos c5] at H
      have c5b0 : (a0_26 == a1_26) = true := beq_iff_eq.mpr c5
      have c5b1 : (a0_26 != a1_26) = false := bne_eq_false_iff_eq.mpr c5
      clear c5
      by_cases c6 : a0_27 = a1_27
      · rw [if_pos c6] at H
        have c6b0 : (a0_27 == a1_27) = true := beq_iff_eq.mpr c6
        have c6b1 : (a0_27 != a1_27) = false := bne_eq_false_iff_eq.mpr c6
        clear c6
        replace H := Option.bind_eq_some_iff.mp H
        obtain ⟨t186, A70, H⟩ := H
        replace H : (if t186 = true then (some true) else (some false)) = some r := H
        have A7 := Aside0.mk A70
        clear A70
        by_cases c8 : t186 = true
        · subst c8
          have H1 : (some true) = some r := by rw [if_pos rfl] at H; exact H
          clear H
          have H := H1
          clear H1
          obtain rfl := Option.some.inj H
          go_enter Tryd.func22, Tryd.ntmps22
          go_wp2_with (first | ((with_reducible refine gate_dst (N := 2) rfl ?_); refine box_event ?hg (N := 2) ?hd (cs := #[.int .i8 a0_0, .int .i8 a0_1, .int .i8 a0_2, .int .i8 a0_3, .int .i8 a0_4, .int .i8 a0_5, .int .i8 a0_6, .int .i8 a0_7, .int .i8 a0_8, .int .i8 a0_9, .int .i8 a0_10, .int .i8 a0_11, .int .i8 a0_12, .int .i8 a0_13, .int .i8 a0_14, .int .i8 a0_15, .int .i8 a0_16, .int .i8 a0_17, .int .i8 a0_18, .int .i8 a0_19, .int .i8 a0_20, .int .i8 a0_21, .int .i8 a0_22, .int .i8 a0_23, .int .i8 a0_24, .int .i8 a0_25, .int .i8 a0_26, .int .i8 a0_27, .slice A0_28 l0_28.length c0_28]) (t := 32) ?hr ?_; (case hd => rfl); (case hg => rfl); (case hr => first | (go_simp; done) | (go_simp; rfl)); intro gb183 hg w9 hbox hb; have n0_ := Aside0.mk (below_step (by repeat (first | (with_reducible first | exact HB.out | apply below_alloc | apply pw_below_drewN | apply below_drew1) | exact HB.out)) hb); have n1_ := Aside0.mk (hbox); have n2_ := Aside0.mk ((by rw [hg]; exact (below_size (by repeat (first | (with_reducible first | exact HB.out | apply below_alloc | apply pw_below_drewN | apply below_drew1) | exact HB.out))) : w.heap.size ≤ gb183)); have n3_ := Aside0.mk ((by rw [hg]; exact (below_size (by repeat (first | (with_reducible first | exact HB.out | apply below_alloc | apply pw_below_drewN | apply below_drew1) | exact HB.out))) : w.heap.size ≤ gb183)); clear HB; have HB := n0_; have BK183 := n1_; have GW183 := n2_; have GE183 := n3_; clear n0_ n1_ n2_ n3_; clear hb hbox hg) | ((with_reducible refine gate_dst (N := 3) rfl ?_); refine box_event ?hg (N := 3) ?hd (cs := #[.int .i8 a1_0, .int .i8 a1_1, .int .i8 a1_2, .int .i8 a1_3, .int .i8 a1_4, .int .i8 a1_5, .int .i8 a1_6, .int .i8 a1_7, .int .i8 a1_8, .int .i8 a1_9, .int .i8 a1_10, .int .i8 a1_11, .int .i8 a1_12, .int .i8 a1_13, .int .i8 a1_14, .int .i8 a1_15, .int .i8 a1_16, .int .i8 a1_17, .int .i8 a1_18, .int .i8 a1_19, .int .i8 a1_20, .int .i8 a1_21, .int .i8 a1_22, .int .i8 a1_23, .int .i8 a1_24, .int .i8 a1_25, .int .i8 a1_26, .int .i8 a1_27, .slice A1_28 l1_28.length c1_28]) (t := 32) ?hr ?_; (case hd => rfl); (case hg => rfl); (case hr => first | (go_simp; done) | (go_simp; rfl)); intro gb184 hg w10 hbox hb; have n0_ := Aside0.mk (blk_below (g := gb183) (o := .cells #[.int .i8 a0_0, .int .i8 a0_1, .int .i8 a0_2, .int .i8 a0_3, .int .i8 a0_4, .int .i8 a0_5, .int .i8 a0_6, .int .i8 a0_7, .int .i8 a0_8, .int .i8 a0_9, .int .i8 a0_10, .int .i8 a0_11, .int .i8 a0_12, .int .i8 a0_13, .int .i8 a0_14, .int .i8 a0_15, .int .i8 a0_16, .int .i8 a0_17, .int .i8 a0_18, .int .i8 a0_19, .int .i8 a0_20, .int .i8 a0_21, .int .i8 a0_22, .int .i8 a0_23, .int .i8 a0_24, .int .i8 a0_25, .int .i8 a0_26, .int .i8 a0_27, .slice A0_28 l0_28.length c0_28] 32 (0, 0)) (by (with_reducible repeat (first | refine blk_drewN ?_ _ | refine blk_drew ?_ | refine blk_alloc ?_ _)); exact BK183.out) hb); have n1_ := Aside0.mk (below_step (by repeat (first | (with_reducible first | exact HB.out | apply below_alloc | apply pw_below_drewN | apply below_drew1 | refine below_set ?_ GE183.out) | exact HB.out)) hb); have n2_ := Aside0.mk (hbox); have n3_ := Aside0.mk ((by rw [hg]; exact (below_size (by repeat (first | (with_reducible first | exact HB.out | apply below_alloc | apply pw_below_drewN | apply below_drew1 | refine below_set ?_ GE183.out) | exact HB.out))) : w.heap.size ≤ gb184)); have n4_ := Aside0.mk ((by rw [hg]; exact (below_size (by repeat (first | (with_reducible first | exact HB.out | apply below_alloc | apply pw_below_drewN | apply below_drew1 | refine below_set ?_ GE183.out) | exact HB.out))) : w.heap.size ≤ gb184)); have n5_ := Aside0.mk ((by rw [hg]; exact Nat.ne_of_lt (blk_lt (g := gb183) (o := .cells #[.int .i8 a0_0, .int .i8 a0_1, .int .i8 a0_2, .int .i8 a0_3, .int .i8 a0_4, .int .i8 a0_5, .int .i8 a0_6, .int .i8 a0_7, .int .i8 a0_8, .int .i8 a0_9, .int .i8 a0_10, .int .i8 a0_11, .int .i8 a0_12, .int .i8 a0_13, .int .i8 a0_14, .int .i8 a0_15, .int .i8 a0_16, .int .i8 a0_17, .int .i8 a0_18, .int .i8 a0_19, .int .i8 a0_20, .int .i8 a0_21, .int .i8 a0_22, .int .i8 a0_23, .int .i8 a0_24, .int .i8 a0_25, .int .i8 a0_26, .int .i8 a0_27, .slice A0_28 l0_28.length c0_28] 32 (0, 0)) (by (with_reducible repeat (first | refine blk_drewN ?_ _ | refine blk_drew ?_ | refine blk_alloc ?_ _)); exact BK183.out)) : gb183 ≠ gb184)); have n6_ := Aside0.mk ((by rw [hg]; exact Nat.ne_of_gt (blk_lt (g := gb183) (o := .cells #[.int .i8 a0_0, .int .i8 a0_1, .int .i8 a0_2, .int .i8 a0_3, .int .i8 a0_4, .int .i8 a0_5, .int .i8 a0_6, .int .i8 a0_7, .int .i8 a0_8, .int .i8 a0_9, .int .i8 a0_10, .int .i8 a0_11, .int .i8 a0_12, .int .i8 a0_13, .int .i8 a0_14, .int .i8 a0_15, .int .i8 a0_16, .int .i8 a0_17, .int .i8 a0_18, .int .i8 a0_19, .int .i8 a0_20, .int .i8 a0_21, .int .i8 a0_22, .int .i8 a0_23, .int .i8 a0_24, .int .i8 a0_25, .int .i8 a0_26, .int .i8 a0_27, .slice A0_28 l0_28.length c0_28] 32 (0, 0)) (by (with_reducible repeat (first | refine blk_drewN ?_ _ | refine blk_drew ?_ | refine blk_alloc ?_ _)); exact BK183.out)) : gb184 ≠ gb183)); clear BK183; clear HB; have BK183 := n0_; have HB := n1_; have BK184 := n2_; have GW184 := n3_; have GE184 := n4_; have NB183_184 := n5_; have NB184_183 := n6_; clear n0_ n1_ n2_ n3_ n4_ n5_ n6_; clear hb hbox hg) | ((with_reducible refine gate_dst (N := 6) rfl ?_); refine wpList_load_mid rfl 23 (.tmp 5) rfl gb183 0 rfl [.int .i8 a0_0, .int .i8 a0_1, .int .i8 a0_2, .int .i8 a0_3, .int .i8 a0_4, .int .i8 a0_5, .int .i8 a0_6, .int .i8 a0_7, .int .i8 a0_8, .int .i8 a0_9, .int .i8 a0_10, .int .i8 a0_11, .int .i8 a0_12, .int .i8 a0_13, .int .i8 a0_14, .int .i8 a0_15, .int .i8 a0_16, .int .i8 a0_17, .int .i8 a0_18, .int .i8 a0_19, .int .i8 a0_20, .int .i8 a0_21, .int .i8 a0_22, .int .i8 a0_23, .int .i8 a0_24, .int .i8 a0_25] _ (range_partx_ [] [.int .i8 a0_0, .int .i8 a0_1, .int .i8 a0_2, .int .i8 a0_3, .int .i8 a0_4, .int .i8 a0_5, .int .i8 a0_6, .int .i8 a0_7, .int .i8 a0_8, .int .i8 a0_9, .int .i8 a0_10, .int .i8 a0_11, .int .i8 a0_12, .int .i8 a0_13, .int .i8 a0_14, .int .i8 a0_15, .int .i8 a0_16, .int .i8 a0_17, .int .i8 a0_18, .int .i8 a0_19, .int .i8 a0_20, .int .i8 a0_21, .int .i8 a0_22, .int .i8 a0_23, .int .i8 a0_24, .int .i8 a0_25] [.int .i8 a0_26, .int .i8 a0_27, .slice A0_28 l0_28.length c0_28] 0 rfl (by (with_reducible repeat (first | refine blk_drewN ?_ _ | refine blk_drew ?_ | refine blk_alloc ?_ _)); exact BK183.out)) Tryd.underlying23 rfl (by exact (show (Tryd.prog.info? 23).map (·.size) = some 26 by kernel_rfl)) ?_) | ((with_reducible refine gate_dst (N := 8) rfl ?_); refine wpList_load_mid rfl 23 (.tmp 7) rfl gb184 0 rfl [.int .i8 a1_0, .int .i8 a1_1, .int .i8 a1_2, .int .i8 a1_3, .int .i8 a1_4, .int .i8 a1_5, .int .i8 a1_6, .int .i8 a1_7, .int .i8 a1_8, .int .i8 a1_9, .int .i8 a1_10, .int .i8 a1_11, .int .i8 a1_12, .int .i8 a1_13, .int .i8 a1_14, .int .i8 a1_15, .int .i8 a1_16, .int .i8 a1_17, .int .i8 a1_18, .int .i8 a1_19, .int .i8 a1_20, .int .i8 a1_21, .int .i8 a1_22, .int .i8 a1_23, .int .i8 a1_24, .int .i8 a1_25] _ (range_partx_ [] [.int .i8 a1_0, .int .i8 a1_1, .int .i8 a1_2, .int .i8 a1_3, .int .i8 a1_4, .int .i8 a1_5, .int .i8 a1_6, .int .i8 a1_7, .int .i8 a1_8, .int .i8 a1_9, .int .i8 a1_10, .int .i8 a1_11, .int .i8 a1_12, .int .i8 a1_13, .int .i8 a1_14, .int .i8 a1_15, .int .i8 a1_16, .int .i8 a1_17, .int .i8 a1_18, .int .i8 a1_19, .int .i8 a1_20, .int .i8 a1_21, .int .i8 a1_22, .int .i8 a1_23, .int .i8 a1_24, .int .i8 a1_25] [.int .i8 a1_26, .int .i8 a1_27, .slice A1_28 l1_28.length c1_28] 0 rfl (by (with_reducible repeat (first | refine blk_drewN ?_ _ | refine blk_drew ?_ | refine blk_alloc ?_ _)); exact BK184.out)) Tryd.underlying23 rfl (by exact (show (Tryd.prog.info? 23).map (·.size) = some 26 by kernel_rfl)) ?_) | ((with_reducible refine gate_callee (f := 71) rfl ?_); refine goesL_ (some 9) rfl rfl Tryd.func71 (by kernel_rfl) rfl #[.agg #[.int .i8 a0_0, .int .i8 a0_1, .int .i8 a0_2, .int .i8 a0_3, .int .i8 a0_4, .int .i8 a0_5, .int .i8 a0_6, .int .i8 a0_7, .int .i8 a0_8, .int .i8 a0_9, .int .i8 a0_10, .int .i8 a0_11, .int .i8 a0_12, .int .i8 a0_13, .int .i8 a0_14, .int .i8 a0_15, .int .i8 a0_16, .int .i8 a0_17, .int .i8 a0_18, .int .i8 a0_19, .int .i8 a0_20, .int .i8 a0_21, .int .i8 a0_22, .int .i8 a0_23, .int .i8 a0_24, .int .i8 a0_25], .agg #[.int .i8 a1_0, .int .i8 a1_1, .int .i8 a1_2, .int .i8 a1_3, .int .i8 a1_4, .int .i8 a1_5, .int .i8 a1_6, .int .i8 a1_7, .int .i8 a1_8, .int .i8 a1_9, .int .i8 a1_10, .int .i8 a1_11, .int .i8 a1_12, .int .i8 a1_13, .int .i8 a1_14, .int .i8 a1_15, .int .i8 a1_16, .int .i8 a1_17, .int .i8 a1_18, .int .i8 a1_19, .int .i8 a1_20, .int .i8 a1_21, .int .i8 a1_22, .int .i8 a1_23, .int .i8 a1_24, .int .i8 a1_25]] rfl (by (try simp only [List.map_toArray, List.map_cons, List.map_nil]); first | done | rfl | (simp only [List.length_drop, List.length_take]; rfl)) ?_; (with_reducible refine (laws_eqInt8A26.calls k a0_0 a0_1 a0_2 a0_3 a0_4 a0_5 a0_6 a0_7 a0_8 a0_9 a0_10 a0_11 a0_12 a0_13 a0_14 a0_15 a0_16 a0_17 a0_18 a0_19 a0_20 a0_21 a0_22 a0_23 a0_24 a0_25 a1_0 a1_1 a1_2 a1_3 a1_4 a1_5 a1_6 a1_7 a1_8 a1_9 a1_10 a1_11 a1_12 a1_13 a1_14 a1_15 a1_16 a1_17 a1_18 a1_19 a1_20 a1_21 a1_22 a1_23 a1_24 a1_25 true _ A3.out).mono ?_); rintro e w11 ⟨rfl, hb⟩; refine ⟨_, rfl, ?_⟩; have n0_ := Aside0.mk (blk_below (g := gb183) (o := .cells #[.int .i8 a0_0, .int .i8 a0_1, .int .i8 a0_2, .int .i8 a0_3, .int .i8 a0_4, .int .i8 a0_5, .int .i8 a0_6, .int .i8 a0_7, .int .i8 a0_8, .int .i8 a0_9, .int .i8 a0_10, .int .i8 a0_11, .int .i8 a0_12, .int .i8 a0_13, .int .i8 a0_14, .int .i8 a0_15, .int .i8 a0_16, .int .i8 a0_17, .int .i8 a0_18, .int .i8 a0_19, .int .i8 a0_20, .int .i8 a0_21, .int .i8 a0_22, .int .i8 a0_23, .int .i8 a0_24, .int .i8 a0_25, .int .i8 a0_26, .int .i8 a0_27, .slice A0_28 l0_28.length c0_28] 32 (0, 0)) (by (with_reducible repeat (first | refine blk_drewN ?_ _ | refine blk_drew ?_ | refine blk_alloc ?_ _)); exact BK183.out) hb); have n1_ := Aside0.mk (blk_below (g := gb184) (o := .cells #[.int .i8 a1_0, .int .i8 a1_1, .int .i8 a1_2, .int .i8 a1_3, .int .i8 a1_4, .int .i8 a1_5, .int .i8 a1_6, .int .i8 a1_7, .int .i8 a1_8, .int .i8 a1_9, .int .i8 a1_10, .int .i8 a1_11, .int .i8 a1_12, .int .i8 a1_13, .int .i8 a1_14, .int .i8 a1_15, .int .i8 a1_16, .int .i8 a1_17, .int .i8 a1_18, .int .i8 a1_19, .int .i8 a1_20, .int .i8 a1_21, .int .i8 a1_22, .int .i8 a1_23, .int .i8 a1_24, .int .i8 a1_25, .int .i8 a1_26, .int .i8 a1_27, .slice A1_28 l1_28.length c1_28] 32 (0, 0)) (by (with_reducible repeat (first | refine blk_drewN ?_ _ | refine blk_drew ?_ | refine blk_alloc ?_ _)); exact BK184.out) hb); have n2_ := Aside0.mk (below_step (by repeat (first | (with_reducible first | exact HB.out | apply below_alloc | apply pw_below_drewN | apply below_drew1 | refine below_set ?_ GE183.out | refine below_set ?_ GE184.out) | exact HB.out)) hb); clear BK183; clear BK184; clear HB; have BK183 := n0_; have BK184 := n1_; have HB := n2_; clear n0_ n1_ n2_; (try clear hb); (try clear hb2); (try clear hk); (try clear hi); have hnb12 := NB183_184.out; have hnc12 := NB184_183.out; have hcz13_26 : w11.cell? ⟨gb183, 26, none⟩ = some (.int .i8 a0_26) := (blk_cell BK183.out 26).trans rfl; have hcz13_27 : w11.cell? ⟨gb183, 27, none⟩ = some (.int .i8 a0_27) := (blk_cell BK183.out 27).trans rfl; have hcz13_28 : w11.cell? ⟨gb183, 28, none⟩ = some (.slice A0_28 l0_28.length c0_28) := (blk_cell BK183.out 28).trans rfl; have hfz13_26 := blk_frozen BK183.out 26; have hfz13_27 := blk_frozen BK183.out 27; have hfz13_28 := blk_frozen BK183.out 28; have hcz14_26 : w11.cell? ⟨gb184, 26, none⟩ = some (.int .i8 a1_26) := (blk_cell BK184.out 26).trans rfl; have hcz14_27 : w11.cell? ⟨gb184, 27, none⟩ = some (.int .i8 a1_27) := (blk_cell BK184.out 27).trans rfl; have hcz14_28 : w11.cell? ⟨gb184, 28, none⟩ = some (.slice A1_28 l1_28.length c1_28) := (blk_cell BK184.out 28).trans rfl; have hfz14_26 := blk_frozen BK184.out 26; have hfz14_27 := blk_frozen BK184.out 27; have hfz14_28 := blk_frozen BK184.out 28) | ((with_reducible refine gate_callee (f := 72) rfl ?_); refine goesL_ (some 25) rfl rfl Tryd.func72 (by kernel_rfl) rfl #[.slice A0_28 l0_28.length c0_28, .slice A1_28 l1_28.length c1_28] rfl (by (try simp only [List.map_toArray, List.map_cons, List.map_nil]); first | done | rfl | (simp only [List.length_drop, List.length_take]; rfl)) ?_; (with_reducible refine (laws_eqPairS.calls k _ _ l0_28 _ _ l1_28 true _ ?side1 ?side2 ?side3 ?side4 A7.out).mono ?_); (case side1 => repeat (first | exact (Kd.C_below HR0_28.out HB.out) | (with_reducible refine Kd.C_alloc ?_ _) | (with_reducible refine Kd.C_drewN ?_ _) | (with_reducible refine Kd.C_drew ?_))); (case side2 => exact HC0_28.out); (case side3 => repeat (first | exact (Kd.C_below HR1_28.out HB.out) | (with_reducible refine Kd.C_alloc ?_ _) | (with_reducible refine Kd.C_drewN ?_ _) | (with_reducible refine Kd.C_drew ?_))); (case side4 => exact HC1_28.out); rintro e w15 ⟨rfl, hb⟩; refine ⟨_, rfl, ?_⟩; have n0_ := Aside0.mk (blk_below (g := gb183) (o := .cells #[.int .i8 a0_0, .int .i8 a0_1, .int .i8 a0_2, .int .i8 a0_3, .int .i8 a0_4, .int .i8 a0_5, .int .i8 a0_6, .int .i8 a0_7, .int .i8 a0_8, .int .i8 a0_9, .int .i8 a0_10, .int .i8 a0_11, .int .i8 a0_12, .int .i8 a0_13, .int .i8 a0_14, .int .i8 a0_15, .int .i8 a0_16, .int .i8 a0_17, .int .i8 a0_18, .int .i8 a0_19, .int .i8 a0_20, .int .i8 a0_21, .int .i8 a0_22, .int .i8 a0_23, .int .i8 a0_24, .int .i8 a0_25, .int .i8 a0_26, .int .i8 a0_27, .slice A0_28 l0_28.length c0_28] 32 (0, 0)) (by (with_reducible repeat (first | refine blk_drewN ?_ _ | refine blk_drew ?_ | refine blk_alloc ?_ _)); exact BK183.out) hb); have n1_ := Aside0.mk (blk_below (g := gb184) (o := .cells #[.int .i8 a1_0, .int .i8 a1_1, .int .i8 a1_2, .int .i8 a1_3, .int .i8 a1_4, .int .i8 a1_5, .int .i8 a1_6, .int .i8 a1_7, .int .i8 a1_8, .int .i8 a1_9, .int .i8 a1_10, .int .i8 a1_11, .int .i8 a1_12, .int .i8 a1_13, .int .i8 a1_14, .int .i8 a1_15, .int .i8 a1_16, .int .i8 a1_17, .int .i8 a1_18, .int .i8 a1_19, .int .i8 a1_20, .int .i8 a1_21, .int .i8 a1_22, .int .i8 a1_23, .int .i8 a1_24, .int .i8 a1_25, .int .i8 a1_26, .int .i8 a1_27, .slice A1_28 l1_28.length c1_28] 32 (0, 0)) (by (with_reducible repeat (first | refine blk_drewN ?_ _ | refine blk_drew ?_ | refine blk_alloc ?_ _)); exact BK184.out) hb); have n2_ := Aside0.mk (below_step (by repeat (first | (with_reducible first | exact HB.out | apply below_alloc | apply pw_below_drewN | apply below_drew1 | refine below_set ?_ GE183.out | refine below_set ?_ GE184.out) | exact HB.out)) hb); clear BK183; clear BK184; clear HB; have BK183 := n0_; have BK184 := n1_; have HB := n2_; clear n0_ n1_ n2_; (try clear hb); (try clear hb2); (try clear hk); (try clear hi)))
          go_ret
          exact ⟨by first | rfl | (simp [errW_none, errW_some] <;> rfl) | (simp [*, errW_none, errW_some] <;> rfl), by repeat (first | (with_reducible first | exact HB.out | apply below_alloc | apply pw_below_drewN | apply below_drew1 | refine below_set ?_ GE183.out | refine below_set ?_ GE184.out) | exact HB.out)⟩
        · replace c8 := Bool.eq_false_iff.mpr c8
          subst c8
          have H1 : (some false) = some r := by rw [if_neg (show ¬ (false = true) by decide)] at H; exact H
          clear H
          have H := H1
          clear H1
          obtain rfl := Option.some.inj H
          go_enter Tryd.func22, Tryd.ntmps22
          go_wp2_with (first | ((with_reducible refine gate_dst (N := 2) rfl ?_); refine box_event ?hg (N := 2) ?hd (cs := #[.int .i8 a0_0, .int .i8 a0_1, .int .i8 a0_2, .int .i8 a0_3, .int .i8 a0_4, .int .i8 a0_5, .int .i8 a0_6, .int .i8 a0_7, .int .i8 a0_8, .int .i8 a0_9, .int .i8 a0_10, .int .i8 a0_11, .int .i8 a0_12, .int .i8 a0_13, .int .i8 a0_14, .int .i8 a0_15, .int .i8 a0_16, .int .i8 a0_17, .int .i8 a0_18, .int .i8 a0_19, .int .i8 a0_20, .int .i8 a0_21, .int .i8 a0_22, .int .i8 a0_23, .int .i8 a0_24, .int .i8 a0_25, .int .i8 a0_26, .int .i8 a0_27, .slice A0_28 l0_28.length c0_28]) (t := 32) ?hr ?_; (case hd => rfl); (case hg => rfl); (case hr => first | (go_simp; done) | (go_simp; rfl)); intro gb183 hg w16 hbox hb; have n0_ := Aside0.mk (below_step (by repeat (first | (with_reducible first | exact HB.out | apply below_alloc | apply pw_below_drewN | apply below_drew1) | exact HB.out)) hb); have n1_ := Aside0.mk (hbox); have n2_ := Aside0.mk ((by rw [hg]; exact (below_size (by repeat (first | (with_reducible first | exact HB.out | apply below_alloc | apply pw_below_drewN | apply below_drew1) | exact HB.out))) : w.heap.size ≤ gb183)); have n3_ := Aside0.mk ((by rw [hg]; exact (below_size (by repeat (first | (with_reducible first | exact HB.out | apply below_alloc | apply pw_below_drewN | apply below_drew1) | exact HB.out))) : w.heap.size ≤ gb183)); clear HB; have HB := n0_; have BK183 := n1_; have GW183 := n2_; have GE183 := n3_; clear n0_ n1_ n2_ n3_; clear hb hbox hg) | ((with_reducible refine gate_dst (N := 3) rfl ?_); refine box_event ?hg (N := 3) ?hd (cs := #[.int .i8 a1_0, .int .i8 a1_1, .int .i8 a1_2, .int .i8 a1_3, .int .i8 a1_4, .int .i8 a1_5, .int .i8 a1_6, .int .i8 a1_7, .int .i8 a1_8, .int .i8 a1_9, .int .i8 a1_10, .int .i8 a1_11, .int .i8 a1_12, .int .i8 a1_13, .int .i8 a1_14, .int .i8 a1_15, .int .i8 a1_16, .int .i8 a1_17, .int .i8 a1_18, .int .i8 a1_19, .int .i8 a1_20, .int .i8 a1_21, .int .i8 a1_22, .int .i8 a1_23, .int .i8 a1_24, .int .i8 a1_25, .int .i8 a1_26, .int .i8 a1_27, .slice A1_28 l1_28.length c1_28]) (t := 32) ?hr ?_; (case hd => rfl); (case hg => rfl); (case hr => first | (go_simp; done) | (go_simp; rfl)); intro gb184 hg w17 hbox hb; have n0_ := Aside0.mk (blk_below (g := gb183) (o := .cells #[.int .i8 a0_0, .int .i8 a0_1, .int .i8 a0_2, .int .i8 a0_3, .int .i8 a0_4, .int .i8 a0_5, .int .i8 a0_6, .int .i8 a0_7, .int .i8 a0_8, .int .i8 a0_9, .int .i8 a0_10, .int .i8 a0_11, .int .i8 a0_12, .int .i8 a0_13, .int .i8 a0_14, .int .i8 a0_15, .int .i8 a0_16, .int .i8 a0_17, .int .i8 a0_18, .int .i8 a0_19, .int .i8 a0_20, .int .i8 a0_21, .int .i8 a0_22, .int .i8 a0_23, .int .i8 a0_24, .int .i8 a0_25, .int .i8 a0_26, .int .i8 a0_27, .slice A0_28 l0_28.length c0_28] 32 (0, 0)) (by (with_reducible repeat (first | refine blk_drewN ?_ _ | refine blk_drew ?_ | refine blk_alloc ?_ _)); exact BK183.out) hb); have n1_ := Aside0.mk (below_step (by repeat (first | (with_reducible first | exact HB.out | apply below_alloc | apply pw_below_drewN | apply below_drew1 | refine below_set ?_ GE183.out) | exact HB.out)) hb); have n2_ := Aside0.mk (hbox); have n3_ := Aside0.mk ((by rw [hg]; exact (below_size (by repeat (first | (with_reducible first | exact HB.out | apply below_alloc | apply pw_below_drewN | apply below_drew1 | refine below_set ?_ GE183.out) | exact HB.out))) : w.heap.size ≤ gb184)); have n4_ := Aside0.mk ((by rw [hg]; exact (below_size (by repeat (first | (with_reducible first | exact HB.out | apply below_alloc | apply pw_below_drewN | apply below_drew1 | refine below_set ?_ GE183.out) | exact HB.out))) : w.heap.size ≤ gb184)); have n5_ := Aside0.mk ((by rw [hg]; exact Nat.ne_of_lt (blk_lt (g := gb183) (o := .cells #[.int .i8 a0_0, .int .i8 a0_1, .int .i8 a0_2, .int .i8 a0_3, .int .i8 a0_4, .int .i8 a0_5, .int .i8 a0_6, .int .i8 a0_7, .int .i8 a0_8, .int .i8 a0_9, .int .i8 a0_10, .int .i8 a0_11, .int .i8 a0_12, .int .i8 a0_13, .int .i8 a0_14, .int .i8 a0_15, .int .i8 a0_16, .int .i8 a0_17, .int .i8 a0_18, .int .i8 a0_19, .int .i8 a0_20, .int .i8 a0_21, .int .i8 a0_22, .int .i8 a0_23, .int .i8 a0_24, .int .i8 a0_25, .int .i8 a0_26, .int .i8 a0_27, .slice A0_28 l0_28.length c0_28] 32 (0, 0)) (by (with_reducible repeat (first | refine blk_drewN ?_ _ | refine blk_drew ?_ | refine blk_alloc ?_ _)); exact BK183.out)) : gb183 ≠ gb184)); have n6_ := Aside0.mk ((by rw [hg]; exact Nat.ne_of_gt (blk_lt (g := gb183) (o := .cells #[.int .i8 a0_0, .int .i8 a0_1, .int .i8 a0_2, .int .i8 a0_3, .int .i8 a0_4, .int .i8 a0_5, .int .i8 a0_6, .int .i8 a0_7, .int .i8 a0_8, .int .i8 a0_9, .int .i8 a0_10, .int .i8 a0_11, .int .i8 a0_12, .int .i8 a0_13, .int .i8 a0_14, .int .i8 a0_15, .int .i8 a0_16, .int .i8 a0_17, .int .i8 a0_18, .int .i8 a0_19, .int .i8 a0_20, .int .i8 a0_21, .int .i8 a0_22, .int .i8 a0_23, .int .i8 a0_24, .int .i8 a0_25, .int .i8 a0_26, .int .i8 a0_27, .slice A0_28 l0_28.length c0_28] 32 (0, 0)) (by (with_reducible repeat (first | refine blk_drewN ?_ _ | refine blk_drew ?_ | refine blk_alloc ?_ _)); exact BK183.out)) : gb184 ≠ gb183)); clear BK183; clear HB; have BK183 := n0_; have HB := n1_; have BK184 := n2_; have GW184 := n3_; have GE184 := n4_; have NB183_184 := n5_; have NB184_183 := n6_; clear n0_ n1_ n2_ n3_ n4_ n5_ n6_; clear hb hbox hg) | ((with_reducible refine gate_dst (N := 6) rfl ?_); refine wpList_load_mid rfl 23 (.tmp 5) rfl gb183 0 rfl [.int .i8 a0_0, .int .i8 a0_1, .int .i8 a0_2, .int .i8 a0_3, .int .i8 a0_4, .int .i8 a0_5, .int .i8 a0_6, .int .i8 a0_7, .int .i8 a0_8, .int .i8 a0_9, .int .i8 a0_10, .int .i8 a0_11, .int .i8 a0_12, .int .i8 a0_13, .int .i8 a0_14, .int .i8 a0_15, .int .i8 a0_16, .int .i8 a0_17, .int .i8 a0_18, .int .i8 a0_19, .int .i8 a0_20, .int .i8 a0_21, .int .i8 a0_22, .int .i8 a0_23, .int .i8 a0_24, .int .i8 a0_25] _ (range_partx_ [] [.int .i8 a0_0, .int .i8 a0_1, .int .i8 a0_2, .int .i8 a0_3, .int .i8 a0_4, .int .i8 a0_5, .int .i8 a0_6, .int .i8 a0_7, .int .i8 a0_8, .int .i8 a0_9, .int .i8 a0_10, .int .i8 a0_11, .int .i8 a0_12, .int .i8 a0_13, .int .i8 a0_14, .int .i8 a0_15, .int .i8 a0_16, .int .i8 a0_17, .int .i8 a0_18, .int .i8 a0_19, .int .i8 a0_20, .int .i8 a0_21, .int .i8 a0_22, .int .i8 a0_23, .int .i8 a0_24, .int .i8 a0_25] [.int .i8 a0_26, .int .i8 a0_27, .slice A0_28 l0_28.length c0_28] 0 rfl (by (with_reducible repeat (first | refine blk_drewN ?_ _ | refine blk_drew ?_ | refine blk_alloc ?_ _)); exact BK183.out)) Tryd.underlying23 rfl (by exact (show (Tryd.prog.info? 23).map (·.size) = some 26 by kernel_rfl)) ?_) | ((with_reducible refine gate_dst (N := 8) rfl ?_); refine wpList_load_mid rfl 23 (.tmp 7) rfl gb184 0 rfl [.int .i8 a1_0, .int .i8 a1_1, .int .i8 a1_2, .int .i8 a1_3, .int .i8 a1_4, .int .i8 a1_5, .int .i8 a1_6, .int .i8 a1_7, .int .i8 a1_8, .int .i8 a1_9, .int .i8 a1_10, .int .i8 a1_11, .int .i8 a1_12, .int .i8 a1_13, .int .i8 a1_14, .int .i8 a1_15, .int .i8 a1_16, .int .i8 a1_17, .int .i8 a1_18, .int .i8 a1_19, .int .i8 a1_20, .int .i8 a1_21, .int .i8 a1_22, .int .i8 a1_23, .int .i8 a1_24, .int .i8 a1_25] _ (range_partx_ [] [.int .i8 a1_0, .int .i8 a1_1, .int .i8 a1_2, .int .i8 a1_3, .int .i8 a1_4, .int .i8 a1_5, .int .i8 a1_6, .int .i8 a1_7, .int .i8 a1_8, .int .i8 a1_9, .int .i8 a1_10, .int .i8 a1_11, .int .i8 a1_12, .int .i8 a1_13, .int .i8 a1_14, .int .i8 a1_15, .int .i8 a1_16, .int .i8 a1_17, .int .i8 a1_18, .int .i8 a1_19, .int .i8 a1_20, .int .i8 a1_21, .int .i8 a1_22, .int .i8 a1_23, .int .i8 a1_24, .int .i8 a1_25] [.int .i8 a1_26, .int .i8 a1_27, .slice A1_28 l1_28.length c1_28] 0 rfl (by (with_reducible repeat (first | refine blk_drewN ?_ _ | refine blk_drew ?_ | refine blk_alloc ?_ _)); exact BK184.out)) Tryd.underlying23 rfl (by exact (show (Tryd.prog.info? 23).map (·.size) = some 26 by kernel_rfl)) ?_) | ((with_reducible refine gate_callee (f := 71) rfl ?_); refine goesL_ (some 9) rfl rfl Tryd.func71 (by kernel_rfl) rfl #[.agg #[.int .i8 a0_0, .int .i8 a0_1, .int .i8 a0_2, .int .i8 a0_3, .int .i8 a0_4, .int .i8 a0_5, .int .i8 a0_6, .int .i8 a0_7, .int .i8 a0_8, .int .i8 a0_9, .int .i8 a0_10, .int .i8 a0_11, .int .i8 a0_12, .int .i8 a0_13, .int .i8 a0_14, .int .i8 a0_15, .int .i8 a0_16, .int .i8 a0_17, .int .i8 a0_18, .int .i8 a0_19, .int .i8 a0_20, .int .i8 a0_21, .int .i8 a0_22, .int .i8 a0_23, .int .i8 a0_24, .int .i8 a0_25], .agg #[.int .i8 a1_0, .int .i8 a1_1, .int .i8 a1_2, .int .i8 a1_3, .int .i8 a1_4, .int .i8 a1_5, .int .i8 a1_6, .int .i8 a1_7, .int .i8 a1_8, .int .i8 a1_9, .int .i8 a1_10, .int .i8 a1_11, .int .i8 a1_12, .int .i8 a1_13, .int .i8 a1_14, .int .i8 a1_15, .int .i8 a1_16, .int .i8 a1_17, .int .i8 a1_18, .int .i8 a1_19, .int .i8 a1_20, .int .i8 a1_21, .int .i8 a1_22, .int .i8 a1_23, .int .i8 a1_24, .int .i8 a1_25]] rfl (by (try simp only [List.map_toArray, List.map_cons, List.map_nil]); first | done | rfl | (simp only [List.length_drop, List.length_take]; rfl)) ?_; (with_reducible refine (laws_eqInt8A26.calls k a0_0 a0_1 a0_2 a0_3 a0_4 a0_5 a0_6 a0_7 a0_8 a0_9 a0_10 a0_11 a0_12 a0_13 a0_14 a0_15 a0_16 a0_17 a0_18 a0_19 a0_20 a0_21 a0_22 a0_23 a0_24 a0_25 a1_0 a1_1 a1_2 a1_3 a1_4 a1_5 a1_6 a1_7 a1_8 a1_9 a1_10 a1_11 a1_12 a1_13 a1_14 a1_15 a1_16 a1_17 a1_18 a1_19 a1_20 a1_21 a1_22 a1_23 a1_24 a1_25 true _ A3.out).mono ?_); rintro e w18 ⟨rfl, hb⟩; refine ⟨_, rfl, ?_⟩; have n0_ := Aside0.mk (blk_below (g := gb183) (o := .cells #[.int .i8 a0_0, .int .i8 a0_1, .int .i8 a0_2, .int .i8 a0_3, .int .i8 a0_4, .int .i8 a0_5, .int .i8 a0_6, .int .i8 a0_7, .int .i8 a0_8, .int .i8 a0_9, .int .i8 a0_10, .int .i8 a0_11, .int .i8 a0_12, .int .i8 a0_13, .int .i8 a0_14, .int .i8 a0_15, .int .i8 a0_16, .int .i8 a0_17, .int .i8 a0_18, .int .i8 a0_19, .int .i8 a0_20, .int .i8 a0_21, .int .i8 a0_22, .int .i8 a0_23, .int .i8 a0_24, .int .i8 a0_25, .int .i8 a0_26, .int .i8 a0_27, .slice A0_28 l0_28.length c0_28] 32 (0, 0)) (by (with_reducible repeat (first | refine blk_drewN ?_ _ | refine blk_drew ?_ | refine blk_alloc ?_ _)); exact BK183.out) hb); have n1_ := Aside0.mk (blk_below (g := gb184) (o := .cells #[.int .i8 a1_0, .int .i8 a1_1, .int .i8 a1_2, .int .i8 a1_3, .int .i8 a1_4, .int .i8 a1_5, .int .i8 a1_6, .int .i8 a1_7, .int .i8 a1_8, .int .i8 a1_9, .int .i8 a1_10, .int .i8 a1_11, .int .i8 a1_12, .int .i8 a1_13, .int .i8 a1_14, .int .i8 a1_15, .int .i8 a1_16, .int .i8 a1_17, .int .i8 a1_18, .int .i8 a1_19, .int .i8 a1_20, .int .i8 a1_21, .int .i8 a1_22, .int .i8 a1_23, .int .i8 a1_24, .int .i8 a1_25, .int .i8 a1_26, .int .i8 a1_27, .slice A1_28 l1_28.length c1_28] 32 (0, 0)) (by (with_reducible repeat (first | refine blk_drewN ?_ _ | refine blk_drew ?_ | refine blk_alloc ?_ _)); exact BK184.out) hb); have n2_ := Aside0.mk (below_step (by repeat (first | (with_reducible first | exact HB.out | apply below_alloc | apply pw_below_drewN | apply below_drew1 | refine below_set ?_ GE183.out | refine below_set ?_ GE184.out) | exact HB.out)) hb); clear BK183; clear BK184; clear HB; have BK183 := n0_; have BK184 := n1_; have HB := n2_; clear n0_ n1_ n2_; (try clear hb); (try clear hb2); (try clear hk); (try clear hi); have hnb19 := NB183_184.out; have hnc19 := NB184_183.out; have hcz20_26 : w18.cell? ⟨gb183, 26, none⟩ = some (.int .i8 a0_26) := (blk_cell BK183.out 26).trans rfl; have hcz20_27 : w18.cell? ⟨gb183, 27, none⟩ = some (.int .i8 a0_27) := (blk_cell BK183.out 27).trans rfl; have hcz20_28 : w18.cell? ⟨gb183, 28, none⟩ = some (.slice A0_28 l0_28.length c0_28) := (blk_cell BK183.out 28).trans rfl; have hfz20_26 := blk_frozen BK183.out 26; have hfz20_27 := blk_frozen BK183.out 27; have hfz20_28 := blk_frozen BK183.out 28; have hcz21_26 : w18.cell? ⟨gb184, 26, none⟩ = some (.int .i8 a1_26) := (blk_cell BK184.out 26).trans rfl; have hcz21_27 : w18.cell? ⟨gb184, 27, none⟩ = some (.int .i8 a1_27) := (blk_cell BK184.out 27).trans rfl; have hcz21_28 : w18.cell? ⟨gb184, 28, none⟩ = some (.slice A1_28 l1_28.length c1_28) := (blk_cell BK184.out 28).trans rfl; have hfz21_26 := blk_frozen BK184.out 26; have hfz21_27 := blk_frozen BK184.out 27; have hfz21_28 := blk_frozen BK184.out 28) | ((with_reducible refine gate_callee (f := 72) rfl ?_); refine goesL_ (some 25) rfl rfl Tryd.func72 (by kernel_rfl) rfl #[.slice A0_28 l0_28.length c0_28, .slice A1_28 l1_28.length c1_28] rfl (by (try simp only [List.map_toArray, List.map_cons, List.map_nil]); first | done | rfl | (simp only [List.length_drop, List.length_take]; rfl)) ?_; (with_reducible refine (laws_eqPairS.calls k _ _ l0_28 _ _ l1_28 false _ ?side1 ?side2 ?side3 ?side4 A7.out).mono ?_); (case side1 => repeat (first | exact (Kd.C_below HR0_28.out HB.out) | (with_reducible refine Kd.C_alloc ?_ _) | (with_reducible refine Kd.C_drewN ?_ _) | (with_reducible refine Kd.C_drew ?_))); (case side2 => exact HC0_28.out); (case side3 => repeat (first | exact (Kd.C_below HR1_28.out HB.out) | (with_reducible refine Kd.C_alloc ?_ _) | (with_reducible refine Kd.C_drewN ?_ _) | (with_reducible refine Kd.C_drew ?_))); (case side4 => exact HC1_28.out); rintro e w22 ⟨rfl, hb⟩; refine ⟨_, rfl, ?_⟩; have n0_ := Aside0.mk (blk_below (g := gb183) (o := .cells #[.int .i8 a0_0, .int .i8 a0_1, .int .i8 a0_2, .int .i8 a0_3, .int .i8 a0_4, .int .i8 a0_5, .int .i8 a0_6, .int .i8 a0_7, .int .i8 a0_8, .int .i8 a0_9, .int .i8 a0_10, .int .i8 a0_11, .int .i8 a0_12, .int .i8 a0_13, .int .i8 a0_14, .int .i8 a0_15, .int .i8 a0_16, .int .i8 a0_17, .int .i8 a0_18, .int .i8 a0_19, .int .i8 a0_20, .int .i8 a0_21, .int .i8 a0_22, .int .i8 a0_23, .int .i8 a0_24, .int .i8 a0_25, .int .i8 a0_26, .int .i8 a0_27, .slice A0_28 l0_28.length c0_28] 32 (0, 0)) (by (with_reducible repeat (first | refine blk_drewN ?_ _ | refine blk_drew ?_ | refine blk_alloc ?_ _)); exact BK183.out) hb); have n1_ := Aside0.mk (blk_below (g := gb184) (o := .cells #[.int .i8 a1_0, .int .i8 a1_1, .int .i8 a1_2, .int .i8 a1_3, .int .i8 a1_4, .int .i8 a1_5, .int .i8 a1_6, .int .i8 a1_7, .int .i8 a1_8, .int .i8 a1_9, .int .i8 a1_10, .int .i8 a1_11, .int .i8 a1_12, .int .i8 a1_13, .int .i8 a1_14, .int .i8 a1_15, .int .i8 a1_16, .int .i8 a1_17, .int .i8 a1_18, .int .i8 a1_19, .int .i8 a1_20, .int .i8 a1_21, .int .i8 a1_22, .int .i8 a1_23, .int .i8 a1_24, .int .i8 a1_25, .int .i8 a1_26, .int .i8 a1_27, .slice A1_28 l1_28.length c1_28] 32 (0, 0)) (by (with_reducible repeat (first | refine blk_drewN ?_ _ | refine blk_drew ?_ | refine blk_alloc ?_ _)); exact BK184.out) hb); have n2_ := Aside0.mk (below_step (by repeat (first | (with_reducible first | exact HB.out | apply below_alloc | apply pw_below_drewN | apply below_drew1 | refine below_set ?_ GE183.out | refine below_set ?_ GE184.out) | exact HB.out)) hb); clear BK183; clear BK184; clear HB; have BK183 := n0_; have BK184 := n1_; have HB := n2_; clear n0_ n1_ n2_; (try clear hb); (try clear hb2); (try clear hk); (try clear hi)))
          go_ret
          exact ⟨by first | rfl | (simp [errW_none, errW_some] <;> rfl) | (simp [*, errW_none, errW_some] <;> rfl), by repeat (first | (with_reducible first | exact HB.out | apply below_alloc | apply pw_below_drewN | apply below_drew1 | refine below_set ?_ GE183.out | refine below_set ?_ GE184.out) | exact HB.out)⟩
      · rw [if_neg c6] at H
        have c6b0 : (a0_27 == a1_27) = false := beq_eq_false_iff_ne.mpr c6
        have c6b1 : (a0_27 != a1_27) = true := bne_iff_ne.mpr c6
        obtain rfl := Option.some.inj H
        go_enter Tryd.func22, Tryd.ntmps22
        go_wp2_with (first | ((with_reducible refine gate_dst (N := 2) rfl ?_); refine box_event ?hg (N := 2) ?hd (cs := #[.int .i8 a0_0, .int .i8 a0_1, .int .i8 a0_2, .int .i8 a0_3, .int .i8 a0_4, .int .i8 a0_5, .int .i8 a0_6, .int .i8 a0_7, .int .i8 a0_8, .int .i8 a0_9, .int .i8 a0_10, .int .i8 a0_11, .int .i8 a0_12, .int .i8 a0_13, .int .i8 a0_14, .int .i8 a0_15, .int .i8 a0_16, .int .i8 a0_17, .int .i8 a0_18, .int .i8 a0_19, .int .i8 a0_20, .int .i8 a0_21, .int .i8 a0_22, .int .i8 a0_23, .int .i8 a0_24, .int .i8 a0_25, .int .i8 a0_26, .int .i8 a0_27, .slice A0_28 l0_28.length c0_28]) (t := 32) ?hr ?_; (case hd => rfl); (case hg => rfl); (case hr => first | (go_simp; done) | (go_simp; rfl)); intro gb183 hg w23 hbox hb; have n0_ := Aside0.mk (below_step (by repeat (first | (with_reducible first | exact HB.out | apply below_alloc | apply pw_below_drewN | apply below_drew1) | exact HB.out)) hb); have n1_ := Aside0.mk (hbox); have n2_ := Aside0.mk ((by rw [hg]; exact (below_size (by repeat (first | (with_reducible first | exact HB.out | apply below_alloc | apply pw_below_drewN | apply below_drew1) | exact HB.out))) : w.heap.size ≤ gb183)); have n3_ := Aside0.mk ((by rw [hg]; exact (below_size (by repeat (first | (with_reducible first | exact HB.out | apply below_alloc | apply pw_below_drewN | apply below_drew1) | exact HB.out))) : w.heap.size ≤ gb183)); clear HB; have HB := n0_; have BK183 := n1_; have GW183 := n2_; have GE183 := n3_; clear n0_ n1_ n2_ n3_; clear hb hbox hg) | ((with_reducible refine gate_dst (N := 3) rfl ?_); refine box_event ?hg (N := 3) ?hd (cs := #[.int .i8 a1_0, .int .i8 a1_1, .int .i8 a1_2, .int .i8 a1_3, .int .i8 a1_4, .int .i8 a1_5, .int .i8 a1_6, .int .i8 a1_7, .int .i8 a1_8, .int .i8 a1_9, .int .i8 a1_10, .int .i8 a1_11, .int .i8 a1_12, .int .i8 a1_13, .int .i8 a1_14, .int .i8 a1_15, .int .i8 a1_16, .int .i8 a1_17, .int .i8 a1_18, .int .i8 a1_19, .int .i8 a1_20, .int .i8 a1_21, .int .i8 a1_22, .int .i8 a1_23, .int .i8 a1_24, .int .i8 a1_25, .int .i8 a1_26, .int .i8 a1_27, .slice A1_28 l1_28.length c1_28]) (t := 32) ?hr ?_; (case hd => rfl); (case hg => rfl); (case hr => first | (go_simp; done) | (go_simp; rfl)); intro gb184 hg w24 hbox hb; have n0_ := Aside0.mk (blk_below (g := gb183) (o := .cells #[.int .i8 a0_0, .int .i8 a0_1, .int .i8 a0_2, .int .i8 a0_3, .int .i8 a0_4, .int .i8 a0_5, .int .i8 a0_6, .int .i8 a0_7, .int .i8 a0_8, .int .i8 a0_9, .int .i8 a0_10, .int .i8 a0_11, .int .i8 a0_12, .int .i8 a0_13, .int .i8 a0_14, .int .i8 a0_15, .int .i8 a0_16, .int .i8 a0_17, .int .i8 a0_18, .int .i8 a0_19, .int .i8 a0_20, .int .i8 a0_21, .int .i8 a0_22, .int .i8 a0_23, .int .i8 a0_24, .int .i8 a0_25, .int .i8 a0_26, .int .i8 a0_27, .slice A0_28 l0_28.length c0_28] 32 (0, 0)) (by (with_reducible repeat (first | refine blk_drewN ?_ _ | refine blk_drew ?_ | refine blk_alloc ?_ _)); exact BK183.out) hb); have n1_ := Aside0.mk (below_step (by repeat (first | (with_reducible first | exact HB.out | apply below_alloc | apply pw_below_drewN | apply below_drew1 | refine below_set ?_ GE183.out) | exact HB.out)) hb); have n2_ := Aside0.mk (hbox); have n3_ := Aside0.mk ((by rw [hg]; exact (below_size (by repeat (first | (with_reducible first | exact HB.out | apply below_alloc | apply pw_below_drewN | apply below_drew1 | refine below_set ?_ GE183.out) | exact HB.out))) : w.heap.size ≤ gb184)); have n4_ := Aside0.mk ((by rw [hg]; exact (below_size (by repeat (first | (with_reducible first | exact HB.out | apply below_alloc | apply pw_below_drewN | apply below_drew1 | refine below_set ?_ GE183.out) | exact HB.out))) : w.heap.size ≤ gb184)); have n5_ := Aside0.mk ((by rw [hg]; exact Nat.ne_of_lt (blk_lt (g := gb183) (o := .cells #[.int .i8 a0_0, .int .i8 a0_1, .int .i8 a0_2, .int .i8 a0_3, .int .i8 a0_4, .int .i8 a0_5, .int .i8 a0_6, .int .i8 a0_7, .int .i8 a0_8, .int .i8 a0_9, .int .i8 a0_10, .int .i8 a0_11, .int .i8 a0_12, .int .i8 a0_13, .int .i8 a0_14, .int .i8 a0_15, .int .i8 a0_16, .int .i8 a0_17, .int .i8 a0_18, .int .i8 a0_19, .int .i8 a0_20, .int .i8 a0_21, .int .i8 a0_22, .int .i8 a0_23, .int .i8 a0_24, .int .i8 a0_25, .int .i8 a0_26, .int .i8 a0_27, .slice A0_28 l0_28.length c0_28] 32 (0, 0)) (by (with_reducible repeat (first | refine blk_drewN ?_ _ | refine blk_drew ?_ | refine blk_alloc ?_ _)); exact BK183.out)) : gb183 ≠ gb184)); have n6_ := Aside0.mk ((by rw [hg]; exact Nat.ne_of_gt (blk_lt (g := gb183) (o := .cells #[.int .i8 a0_0, .int .i8 a0_1, .int .i8 a0_2, .int .i8 a0_3, .int .i8 a0_4, .int .i8 a0_5, .int .i8 a0_6, .int .i8 a0_7, .int .i8 a0_8, .int .i8 a0_9, .int .i8 a0_10, .int .i8 a0_11, .int .i8 a0_12, .int .i8 a0_13, .int .i8 a0_14, .int .i8 a0_15, .int .i8 a0_16, .int .i8 a0_17, .int .i8 a0_18, .int .i8 a0_19, .int .i8 a0_20, .int .i8 a0_21, .int .i8 a0_22, .int .i8 a0_23, .int .i8 a0_24, .int .i8 a0_25, .int .i8 a0_26, .int .i8 a0_27, .slice A0_28 l0_28.length c0_28] 32 (0, 0)) (by (with_reducible repeat (first | refine blk_drewN ?_ _ | refine blk_drew ?_ | refine blk_alloc ?_ _)); exact BK183.out)) : gb184 ≠ gb183)); clear BK183; clear HB; have BK183 := n0_; have HB := n1_; have BK184 := n2_; have GW184 := n3_; have GE184 := n4_; have NB183_184 := n5_; have NB184_183 := n6_; clear n0_ n1_ n2_ n3_ n4_ n5_ n6_; clear hb hbox hg) | ((with_reducible refine gate_dst (N := 6) rfl ?_); refine wpList_load_mid rfl 23 (.tmp 5) rfl gb183 0 rfl [.int .i8 a0_0, .int .i8 a0_1, .int .i8 a0_2, .int .i8 a0_3, .int .i8 a0_4, .int .i8 a0_5, .int .i8 a0_6, .int .i8 a0_7, .int .i8 a0_8, .int .i8 a0_9, .int .i8 a0_10, .int .i8 a0_11, .int .i8 a0_12, .int .i8 a0_13, .int .i8 a0_14, .int .i8 a0_15, .int .i8 a0_16, .int .i8 a0_17, .int .i8 a0_18, .int .i8 a0_19, .int .i8 a0_20, .int .i8 a0_21, .int .i8 a0_22, .int .i8 a0_23, .int .i8 a0_24, .int .i8 a0_25] _ (range_partx_ [] [.int .i8 a0_0, .int .i8 a0_1, .int .i8 a0_2, .int .i8 a0_3, .int .i8 a0_4, .int .i8 a0_5, .int .i8 a0_6, .int .i8 a0_7, .int .i8 a0_8, .int .i8 a0_9, .int .i8 a0_10, .int .i8 a0_11, .int .i8 a0_12, .int .i8 a0_13, .int .i8 a0_14, .int .i8 a0_15, .int .i8 a0_16, .int .i8 a0_17, .int .i8 a0_18, .int .i8 a0_19, .int .i8 a0_20, .int .i8 a0_21, .int .i8 a0_22, .int .i8 a0_23, .int .i8 a0_24, .int .i8 a0_25] [.int .i8 a0_26, .int .i8 a0_27, .slice A0_28 l0_28.length c0_28] 0 rfl (by (with_reducible repeat (first | refine blk_drewN ?_ _ | refine blk_drew ?_ | refine blk_alloc ?_ _)); exact BK183.out)) Tryd.underlying23 rfl (by exact (show (Tryd.prog.info? 23).map (·.size) = some 26 by kernel_rfl)) ?_) | ((with_reducible refine gate_dst (N := 8) rfl ?_); refine wpList_load_mid rfl 23 (.tmp 7) rfl gb184 0 rfl [.int .i8 a1_0, .int .i8 a1_1, .int .i8 a1_2, .int .i8 a1_3, .int .i8 a1_4, .int .i8 a1_5, .int .i8 a1_6, .int .i8 a1_7, .int .i8 a1_8, .int .i8 a1_9, .int .i8 a1_10, .int .i8 a1_11, .int .i8 a1_12, .int .i8 a1_13, .int .i8 a1_14, .int .i8 a1_15, .int .i8 a1_16, .int .i8 a1_17, .int .i8 a1_18, .int .i8 a1_19, .int .i8 a1_20, .int .i8 a1_21, .int .i8 a1_22, .int .i8 a1_23, .int .i8 a1_24, .int .i8 a1_25] _ (range_partx_ [] [.int .i8 a1_0, .int .i8 a1_1, .int .i8 a1_2, .int .i8 a1_3, .int .i8 a1_4, .int .i8 a1_5, .int .i8 a1_6, .int .i8 a1_7, .int .i8 a1_8, .int .i8 a1_9, .int .i8 a1_10, .int .i8 a1_11, .int .i8 a1_12, .int .i8 a1_13, .int .i8 a1_14, .int .i8 a1_15, .int .i8 a1_16, .int .i8 a1_17, .int .i8 a1_18, .int .i8 a1_19, .int .i8 a1_20, .int .i8 a1_21, .int .i8 a1_22, .int .i8 a1_23, .int .i8 a1_24, .int .i8 a1_25] [.int .i8 a1_26, .int .i8 a1_27, .slice A1_28 l1_28.length c1_28] 0 rfl (by (with_reducible repeat (first | refine blk_drewN ?_ _ | refine blk_drew ?_ | refine blk_alloc ?_ _)); exact BK184.out)) Tryd.underlying23 rfl (by exact (show (Tryd.prog.info? 23).map (·.size) = some 26 by kernel_rfl)) ?_) | ((with_reducible refine gate_callee (f := 71) rfl ?_); refine goesL_ (some 9) rfl rfl Tryd.func71 (by kernel_rfl) rfl #[.agg #[.int .i8 a0_0, .int .i8 a0_1, .int .i8 a0_2, .int .i8 a0_3, .int .i8 a0_4, .int .i8 a0_5, .int .i8 a0_6, .int .i8 a0_7, .int .i8 a0_8, .int .i8 a0_9, .int .i8 a0_10, .int .i8 a0_11, .int .i8 a0_12, .int .i8 a0_13, .int .i8 a0_14, .int .i8 a0_15, .int .i8 a0_16, .int .i8 a0_17, .int .i8 a0_18, .int .i8 a0_19, .int .i8 a0_20, .int .i8 a0_21, .int .i8 a0_22, .int .i8 a0_23, .int .i8 a0_24, .int .i8 a0_25], .agg #[.int .i8 a1_0, .int .i8 a1_1, .int .i8 a1_2, .int .i8 a1_3, .int .i8 a1_4, .int .i8 a1_5, .int .i8 a1_6, .int .i8 a1_7, .int .i8 a1_8, .int .i8 a1_9, .int .i8 a1_10, .int .i8 a1_11, .int .i8 a1_12, .int .i8 a1_13, .int .i8 a1_14, .int .i8 a1_15, .int .i8 a1_16, .int .i8 a1_17, .int .i8 a1_18, .int .i8 a1_19, .int .i8 a1_20, .int .i8 a1_21, .int .i8 a1_22, .int .i8 a1_23, .int .i8 a1_24, .int .i8 a1_25]] rfl (by (try simp only [List.map_toArray, List.map_cons, List.map_nil]); first | done | rfl | (simp only [List.length_drop, List.length_take]; rfl)) ?_; (with_reducible refine (laws_eqInt8A26.calls k a0_0 a0_1 a0_2 a0_3 a0_4 a0_5 a0_6 a0_7 a0_8 a0_9 a0_10 a0_11 a0_12 a0_13 a0_14 a0_15 a0_16 a0_17 a0_18 a0_19 a0_20 a0_21 a0_22 a0_23 a0_24 a0_25 a1_0 a1_1 a1_2 a1_3 a1_4 a1_5 a1_6 a1_7 a1_8 a1_9 a1_10 a1_11 a1_12 a1_13 a1_14 a1_15 a1_16 a1_17 a1_18 a1_19 a1_20 a1_21 a1_22 a1_23 a1_24 a1_25 true _ A3.out).mono ?_); rintro e w25 ⟨rfl, hb⟩; refine ⟨_, rfl, ?_⟩; have n0_ := Aside0.mk (blk_below (g := gb183) (o := .cells #[.int .i8 a0_0, .int .i8 a0_1, .int .i8 a0_2, .int .i8 a0_3, .int .i8 a0_4, .int .i8 a0_5, .int .i8 a0_6, .int .i8 a0_7, .int .i8 a0_8, .int .i8 a0_9, .int .i8 a0_10, .int .i8 a0_11, .int .i8 a0_12, .int .i8 a0_13, .int .i8 a0_14, .int .i8 a0_15, .int .i8 a0_16, .int .i8 a0_17, .int .i8 a0_18, .int .i8 a0_19, .int .i8 a0_20, .int .i8 a0_21, .int .i8 a0_22, .int .i8 a0_23, .int .i8 a0_24, .int .i8 a0_25, .int .i8 a0_26, .int .i8 a0_27, .slice A0_28 l0_28.length c0_28] 32 (0, 0)) (by (with_reducible repeat (first | refine blk_drewN ?_ _ | refine blk_drew ?_ | refine blk_alloc ?_ _)); exact BK183.out) hb); have n1_ := Aside0.mk (blk_below (g := gb184) (o := .cells #[.int .i8 a1_0, .int .i8 a1_1, .int .i8 a1_2, .int .i8 a1_3, .int .i8 a1_4, .int .i8 a1_5, .int .i8 a1_6, .int .i8 a1_7, .int .i8 a1_8, .int .i8 a1_9, .int .i8 a1_10, .int .i8 a1_11, .int .i8 a1_12, .int .i8 a1_13, .int .i8 a1_14, .int .i8 a1_15, .int .i8 a1_16, .int .i8 a1_17, .int .i8 a1_18, .int .i8 a1_19, .int .i8 a1_20, .int .i8 a1_21, .int .i8 a1_22, .int .i8 a1_23, .int .i8 a1_24, .int .i8 a1_25, .int .i8 a1_26, .int .i8 a1_27, .slice A1_28 l1_28.length c1_28] 32 (0, 0)) (by (with_reducible repeat (first | refine blk_drewN ?_ _ | refine blk_drew ?_ | refine blk_alloc ?_ _)); exact BK184.out) hb); have n2_ := Aside0.mk (below_step (by repeat (first | (with_reducible first | exact HB.out | apply below_alloc | apply pw_below_drewN | apply below_drew1 | refine below_set ?_ GE183.out | refine below_set ?_ GE184.out) | exact HB.out)) hb); clear BK183; clear BK184; clear HB; have BK183 := n0_; have BK184 := n1_; have HB := n2_; clear n0_ n1_ n2_; (try clear hb); (try clear hb2); (try clear hk); (try clear hi); have hnb26 := NB183_184.out; have hnc26 := NB184_183.out; have hcz27_26 : w25.cell? ⟨gb183, 26, none⟩ = some (.int .i8 a0_26) := (blk_cell BK183.out 26).trans rfl; have hcz27_27 : w25.cell? ⟨gb183, 27, none⟩ = some (.int .i8 a0_27) := (blk_cell BK183.out 27).trans rfl; have hcz27_28 : w25.cell? ⟨gb183, 28, none⟩ = some (.slice A0_28 l0_28.length c0_28) := (blk_cell BK183.out 28).trans rfl; have hfz27_26 := blk_frozen BK183.out 26; have hfz27_27 := blk_frozen BK183.out 27; have hfz27_28 := blk_frozen BK183.out 28; have hcz28_26 : w25.cell? ⟨gb184, 26, none⟩ = some (.int .i8 a1_26) := (blk_cell BK184.out 26).trans rfl; have hcz28_27 : w25.cell? ⟨gb184, 27, none⟩ = some (.int .i8 a1_27) := (blk_cell BK184.out 27).trans rfl; have hcz28_28 : w25.cell? ⟨gb184, 28, none⟩ = some (.slice A1_28 l1_28.length c1_28) := (blk_cell BK184.out 28).trans rfl; have hfz28_26 := blk_frozen BK184.out 26; have hfz28_27 := blk_frozen BK184.out 27; have hfz28_28 := blk_frozen BK184.out 28))
        go_ret
        exact ⟨by first | rfl | (simp [errW_none, errW_some] <;> rfl) | (simp [*, errW_none, errW_some] <;> rfl), by repeat (first | (with_reducible first | exact HB.out | apply below_alloc | apply pw_below_drewN | apply below_drew1 | refine below_set ?_ GE183.out | refine below_set ?_ GE184.out) | exact HB.out)⟩
    · rw [if_neg c5] at H
      have c5b0 : (a0_26 == a1_26) = false := beq_eq_false_iff_ne.mpr c5
      have c5b1 : (a0_26 != a1_26) = true := bne_iff_ne.mpr c5
      obtain rfl := Option.some.inj H
      go_enter Tryd.func22, Tryd.ntmps22
      go_wp2_with (first | ((with_reducible refine gate_dst (N := 2) rfl ?_); refine box_event ?hg (N := 2) ?hd (cs := #[.int .i8 a0_0, .int .i8 a0_1, .int .i8 a0_2, .int .i8 a0_3, .int .i8 a0_4, .int .i8 a0_5, .int .i8 a0_6, .int .i8 a0_7, .int .i8 a0_8, .int .i8 a0_9, .int .i8 a0_10, .int .i8 a0_11, .int .i8 a0_12, .int .i8 a0_13, .int .i8 a0_14, .int .i8 a0_15, .int .i8 a0_16, .int .i8 a0_17, .int .i8 a0_18, .int .i8 a0_19, .int .i8 a0_20, .int .i8 a0_21, .int .i8 a0_22, .int .i8 a0_23, .int .i8 a0_24, .int .i8 a0_25, .int .i8 a0_26, .int .i8 a0_27, .slice A0_28 l0_28.length c0_28]) (t := 32) ?hr ?_; (case hd => rfl); (case hg => rfl); (case hr => first | (go_simp; done) | (go_simp; rfl)); intro gb183 hg w29 hbox hb; have n0_ := Aside0.mk (below_step (by repeat (first | (with_reducible first | exact HB.out | apply below_alloc | apply pw_below_drewN | apply below_drew1) | exact HB.out)) hb); have n1_ := Aside0.mk (hbox); have n2_ := Aside0.mk ((by rw [hg]; exact (below_size (by repeat (first | (with_reducible first | exact HB.out | apply below_alloc | apply pw_below_drewN | apply below_drew1) | exact HB.out))) : w.heap.size ≤ gb183)); have n3_ := Aside0.mk ((by rw [hg]; exact (below_size (by repeat (first | (with_reducible first | exact HB.out | apply below_alloc | apply pw_below_drewN | apply below_drew1) | exact HB.out))) : w.heap.size ≤ gb183)); clear HB; have HB := n0_; have BK183 := n1_; have GW183 := n2_; have GE183 := n3_; clear n0_ n1_ n2_ n3_; clear hb hbox hg) | ((with_reducible refine gate_dst (N := 3) rfl ?_); refine box_event ?hg (N := 3) ?hd (cs := #[.int .i8 a1_0, .int .i8 a1_1, .int .i8 a1_2, .int .i8 a1_3, .int .i8 a1_4, .int .i8 a1_5, .int .i8 a1_6, .int .i8 a1_7, .int .i8 a1_8, .int .i8 a1_9, .int .i8 a1_10, .int .i8 a1_11, .int .i8 a1_12, .int .i8 a1_13, .int .i8 a1_14, .int .i8 a1_15, .int .i8 a1_16, .int .i8 a1_17, .int .i8 a1_18, .int .i8 a1_19, .int .i8 a1_20, .int .i8 a1_21, .int .i8 a1_22, .int .i8 a1_23, .int .i8 a1_24, .int .i8 a1_25, .int .i8 a1_26, .int .i8 a1_27, .slice A1_28 l1_28.length c1_28]) (t := 32) ?hr ?_; (case hd => rfl); (case hg => rfl); (case hr => first | (go_simp; done) | (go_simp; rfl)); intro gb184 hg w30 hbox hb; have n0_ := Aside0.mk (blk_below (g := gb183) (o := .cells #[.int .i8 a0_0, .int .i8 a0_1, .int .i8 a0_2, .int .i8 a0_3, .int .i8 a0_4, .int .i8 a0_5, .int .i8 a0_6, .int .i8 a0_7, .int .i8 a0_8, .int .i8 a0_9, .int .i8 a0_10, .int .i8 a0_11, .int .i8 a0_12, .int .i8 a0_13, .int .i8 a0_14, .int .i8 a0_15, .int .i8 a0_16, .int .i8 a0_17, .int .i8 a0_18, .int .i8 a0_19, .int .i8 a0_20, .int .i8 a0_21, .int .i8 a0_22, .int .i8 a0_23, .int .i8 a0_24, .int .i8 a0_25, .int .i8 a0_26, .int .i8 a0_27, .slice A0_28 l0_28.length c0_28] 32 (0, 0)) (by (with_reducible repeat (first | refine blk_drewN ?_ _ | refine blk_drew ?_ | refine blk_alloc ?_ _)); exact BK183.out) hb); have n1_ := Aside0.mk (below_step (by repeat (first | (with_reducible first | exact HB.out | apply below_alloc | apply pw_below_drewN | apply below_drew1 | refine below_set ?_ GE183.out) | exact HB.out)) hb); have n2_ := Aside0.mk (hbox); have n3_ := Aside0.mk ((by rw [hg]; exact (below_size (by repeat (first | (with_reducible first | exact HB.out | apply below_alloc | apply pw_below_drewN | apply below_drew1 | refine below_set ?_ GE183.out) | exact HB.out))) : w.heap.size ≤ gb184)); have n4_ := Aside0.mk ((by rw [hg]; exact (below_size (by repeat (first | (with_reducible first | exact HB.out | apply below_alloc | apply pw_below_drewN | apply below_drew1 | refine below_set ?_ GE183.out) | exact HB.out))) : w.heap.size ≤ gb184)); have n5_ := Aside0.mk ((by rw [hg]; exact Nat.ne_of_lt (blk_lt (g := gb183) (o := .cells #[.int .i8 a0_0, .int .i8 a0_1, .int .i8 a0_2, .int .i8 a0_3, .int .i8 a0_4, .int .i8 a0_5, .int .i8 a0_6, .int .i8 a0_7, .int .i8 a0_8, .int .i8 a0_9, .int .i8 a0_10, .int .i8 a0_11, .int .i8 a0_12, .int .i8 a0_13, .int .i8 a0_14, .int .i8 a0_15, .int .i8 a0_16, .int .i8 a0_17, .int .i8 a0_18, .int .i8 a0_19, .int .i8 a0_20, .int .i8 a0_21, .int .i8 a0_22, .int .i8 a0_23, .int .i8 a0_24, .int .i8 a0_25, .int .i8 a0_26, .int .i8 a0_27, .slice A0_28 l0_28.length c0_28] 32 (0, 0)) (by (with_reducible repeat (first | refine blk_drewN ?_ _ | refine blk_drew ?_ | refine blk_alloc ?_ _)); exact BK183.out)) : gb183 ≠ gb184)); have n6_ := Aside0.mk ((by rw [hg]; exact Nat.ne_of_gt (blk_lt (g := gb183) (o := .cells #[.int .i8 a0_0, .int .i8 a0_1, .int .i8 a0_2, .int .i8 a0_3, .int .i8 a0_4, .int .i8 a0_5, .int .i8 a0_6, .int .i8 a0_7, .int .i8 a0_8, .int .i8 a0_9, .int .i8 a0_10, .int .i8 a0_11, .int .i8 a0_12, .int .i8 a0_13, .int .i8 a0_14, .int .i8 a0_15, .int .i8 a0_16, .int .i8 a0_17, .int .i8 a0_18, .int .i8 a0_19, .int .i8 a0_20, .int .i8 a0_21, .int .i8 a0_22, .int .i8 a0_23, .int .i8 a0_24, .int .i8 a0_25, .int .i8 a0_26, .int .i8 a0_27, .slice A0_28 l0_28.length c0_28] 32 (0, 0)) (by (with_reducible repeat (first | refine blk_drewN ?_ _ | refine blk_drew ?_ | refine blk_alloc ?_ _)); exact BK183.out)) : gb184 ≠ gb183)); clear BK183; clear HB; have BK183 := n0_; have HB := n1_; have BK184 := n2_; have GW184 := n3_; have GE184 := n4_; have NB183_184 := n5_; have NB184_183 := n6_; clear n0_ n1_ n2_ n3_ n4_ n5_ n6_; clear hb hbox hg) | ((with_reducible refine gate_dst (N := 6) rfl ?_); refine wpList_load_mid rfl 23 (.tmp 5) rfl gb183 0 rfl [.int .i8 a0_0, .int .i8 a0_1, .int .i8 a0_2, .int .i8 a0_3, .int .i8 a0_4, .int .i8 a0_5, .int .i8 a0_6, .int .i8 a0_7, .int .i8 a0_8, .int .i8 a0_9, .int .i8 a0_10, .int .i8 a0_11, .int .i8 a0_12, .int .i8 a0_13, .int .i8 a0_14, .int .i8 a0_15, .int .i8 a0_16, .int .i8 a0_17, .int .i8 a0_18, .int .i8 a0_19, .int .i8 a0_20, .int .i8 a0_21, .int .i8 a0_22, .int .i8 a0_23, .int .i8 a0_24, .int .i8 a0_25] _ (range_partx_ [] [.int .i8 a0_0, .int .i8 a0_1, .int .i8 a0_2, .int .i8 a0_3, .int .i8 a0_4, .int .i8 a0_5, .int .i8 a0_6, .int .i8 a0_7, .int .i8 a0_8, .int .i8 a0_9, .int .i8 a0_10, .int .i8 a0_11, .int .i8 a0_12, .int .i8 a0_13, .int .i8 a0_14, .int .i8 a0_15, .int .i8 a0_16, .int .i8 a0_17, .int .i8 a0_18, .int .i8 a0_19, .int .i8 a0_20, .int .i8 a0_21, .int .i8 a0_22, .int .i8 a0_23, .int .i8 a0_24, .int .i8 a0_25] [.int .i8 a0_26, .int .i8 a0_27, .slice A0_28 l0_28.length c0_28] 0 rfl (by (with_reducible repeat (first | refine blk_drewN ?_ _ | refine blk_drew ?_ | refine blk_alloc ?_ _)); exact BK183.out)) Tryd.underlying23 rfl (by exact (show (Tryd.prog.info? 23).map (·.size) = some 26 by kernel_rfl)) ?_) | ((with_reducible refine gate_dst (N := 8) rfl ?_); refine wpList_load_mid rfl 23 (.tmp 7) rfl gb184 0 rfl [.int .i8 a1_0, .int .i8 a1_1, .int .i8 a1_2, .int .i8 a1_3, .int .i8 a1_4, .int .i8 a1_5, .int .i8 a1_6, .int .i8 a1_7, .int .i8 a1_8, .int .i8 a1_9, .int .i8 a1_10, .int .i8 a1_11, .int .i8 a1_12, .int .i8 a1_13, .int .i8 a1_14, .int .i8 a1_15, .int .i8 a1_16, .int .i8 a1_17, .int .i8 a1_18, .int .i8 a1_19, .int .i8 a1_20, .int .i8 a1_21, .int .i8 a1_22, .int .i8 a1_23, .int .i8 a1_24, .int .i8 a1_25] _ (range_partx_ [] [.int .i8 a1_0, .int .i8 a1_1, .int .i8 a1_2, .int .i8 a1_3, .int .i8 a1_4, .int .i8 a1_5, .int .i8 a1_6, .int .i8 a1_7, .int .i8 a1_8, .int .i8 a1_9, .int .i8 a1_10, .int .i8 a1_11, .int .i8 a1_12, .int .i8 a1_13, .int .i8 a1_14, .int .i8 a1_15, .int .i8 a1_16, .int .i8 a1_17, .int .i8 a1_18, .int .i8 a1_19, .int .i8 a1_20, .int .i8 a1_21, .int .i8 a1_22, .int .i8 a1_23, .int .i8 a1_24, .int .i8 a1_25] [.int .i8 a1_26, .int .i8 a1_27, .slice A1_28 l1_28.length c1_28] 0 rfl (by (with_reducible repeat (first | refine blk_drewN ?_ _ | refine blk_drew ?_ | refine blk_alloc ?_ _)); exact BK184.out)) Tryd.underlying23 rfl (by exact (show (Tryd.prog.info? 23).map (·.size) = some 26 by kernel_rfl)) ?_) | ((with_reducible refine gate_callee (f := 71) rfl ?_); refine goesL_ (some 9) rfl rfl Tryd.func71 (by kernel_rfl) rfl #[.agg #[.int .i8 a0_0, .int .i8 a0_1, .int .i8 a0_2, .int .i8 a0_3, .int .i8 a0_4, .int .i8 a0_5, .int .i8 a0_6, .int .i8 a0_7, .int .i8 a0_8, .int .i8 a0_9, .int .i8 a0_10, .int .i8 a0_11, .int .i8 a0_12, .int .i8 a0_13, .int .i8 a0_14, .int .i8 a0_15, .int .i8 a0_16, .int .i8 a0_17, .int .i8 a0_18, .int .i8 a0_19, .int .i8 a0_20, .int .i8 a0_21, .int .i8 a0_22, .int .i8 a0_23, .int .i8 a0_24, .int .i8 a0_25], .agg #[.int .i8 a1_0, .int .i8 a1_1, .int .i8 a1_2, .int .i8 a1_3, .int .i8 a1_4, .int .i8 a1_5, .int .i8 a1_6, .int .i8 a1_7, .int .i8 a1_8, .int .i8 a1_9, .int .i8 a1_10, .int .i8 a1_11, .int .i8 a1_12, .int .i8 a1_13, .int .i8 a1_14, .int .i8 a1_15, .int .i8 a1_16, .int .i8 a1_17, .int .i8 a1_18, .int .i8 a1_19, .int .i8 a1_20, .int .i8 a1_21, .int .i8 a1_22, .int .i8 a1_23, .int .i8 a1_24, .int .i8 a1_25]] rfl (by (try simp only [List.map_toArray, List.map_cons, List.map_nil]); first | done | rfl | (simp only [List.length_drop, List.length_take]; rfl)) ?_; (with_reducible refine (laws_eqInt8A26.calls k a0_0 a0_1 a0_2 a0_3 a0_4 a0_5 a0_6 a0_7 a0_8 a0_9 a0_10 a0_11 a0_12 a0_13 a0_14 a0_15 a0_16 a0_17 a0_18 a0_19 a0_20 a0_21 a0_22 a0_23 a0_24 a0_25 a1_0 a1_1 a1_2 a1_3 a1_4 a1_5 a1_6 a1_7 a1_8 a1_9 a1_10 a1_11 a1_12 a1_13 a1_14 a1_15 a1_16 a1_17 a1_18 a1_19 a1_20 a1_21 a1_22 a1_23 a1_24 a1_25 true _ A3.out).mono ?_); rintro e w31 ⟨rfl, hb⟩; refine ⟨_, rfl, ?_⟩; have n0_ := Aside0.mk (blk_below (g := gb183) (o := .cells #[.int .i8 a0_0, .int .i8 a0_1, .int .i8 a0_2, .int .i8 a0_3, .int .i8 a0_4, .int .i8 a0_5, .int .i8 a0_6, .int .i8 a0_7, .int .i8 a0_8, .int .i8 a0_9, .int .i8 a0_10, .int .i8 a0_11, .int .i8 a0_12, .int .i8 a0_13, .int .i8 a0_14, .int .i8 a0_15, .int .i8 a0_16, .int .i8 a0_17, .int .i8 a0_18, .int .i8 a0_19, .int .i8 a0_20, .int .i8 a0_21, .int .i8 a0_22, .int .i8 a0_23, .int .i8 a0_24, .int .i8 a0_25, .int .i8 a0_26, .int .i8 a0_27, .slice A0_28 l0_28.length c0_28] 32 (0, 0)) (by (with_reducible repeat (first | refine blk_drewN ?_ _ | refine blk_drew ?_ | refine blk_alloc ?_ _)); exact BK183.out) hb); have n1_ := Aside0.mk (blk_below (g := gb184) (o := .cells #[.int .i8 a1_0, .int .i8 a1_1, .int .i8 a1_2, .int .i8 a1_3, .int .i8 a1_4, .int .i8 a1_5, .int .i8 a1_6, .int .i8 a1_7, .int .i8 a1_8, .int .i8 a1_9, .int .i8 a1_10, .int .i8 a1_11, .int .i8 a1_12, .int .i8 a1_13, .int .i8 a1_14, .int .i8 a1_15, .int .i8 a1_16, .int .i8 a1_17, .int .i8 a1_18, .int .i8 a1_19, .int .i8 a1_20, .int .i8 a1_21, .int .i8 a1_22, .int .i8 a1_23, .int .i8 a1_24, .int .i8 a1_25, .int .i8 a1_26, .int .i8 a1_27, .slice A1_28 l1_28.length c1_28] 32 (0, 0)) (by (with_reducible repeat (first | refine blk_drewN ?_ _ | refine blk_drew ?_ | refine blk_alloc ?_ _)); exact BK184.out) hb); have n2_ := Aside0.mk (below_step (by repeat (first | (with_reducible first | exact HB.out | apply below_alloc | apply pw_below_drewN | apply below_drew1 | refine below_set ?_ GE183.out | refine below_set ?_ GE184.out) | exact HB.out)) hb); clear BK183; clear BK184; clear HB; have BK183 := n0_; have BK184 := n1_; have HB := n2_; clear n0_ n1_ n2_; (try clear hb); (try clear hb2); (try clear hk); (try clear hi); have hnb32 := NB183_184.out; have hnc32 := NB184_183.out; have hcz33_26 : w31.cell? ⟨gb183, 26, none⟩ = some (.int .i8 a0_26) := (blk_cell BK183.out 26).trans rfl; have hcz33_27 : w31.cell? ⟨gb183, 27, none⟩ = some (.int .i8 a0_27) := (blk_cell BK183.out 27).trans rfl; have hcz33_28 : w31.cell? ⟨gb183, 28, none⟩ = some (.slice A0_28 l0_28.length c0_28) := (blk_cell BK183.out 28).trans rfl; have hfz33_26 := blk_frozen BK183.out 26; have hfz33_27 := blk_frozen BK183.out 27; have hfz33_28 := blk_frozen BK183.out 28; have hcz34_26 : w31.cell? ⟨gb184, 26, none⟩ = some (.int .i8 a1_26) := (blk_cell BK184.out 26).trans rfl; have hcz34_27 : w31.cell? ⟨gb184, 27, none⟩ = some (.int .i8 a1_27) := (blk_cell BK184.out 27).trans rfl; have hcz34_28 : w31.cell? ⟨gb184, 28, none⟩ = some (.slice A1_28 l1_28.length c1_28) := (blk_cell BK184.out 28).trans rfl; have hfz34_26 := blk_frozen BK184.out 26; have hfz34_27 := blk_frozen BK184.out 27; have hfz34_28 := blk_frozen BK184.out 28))
      go_ret
      exact ⟨by first | rfl | (simp [errW_none, errW_some] <;> rfl) | (simp [*, errW_none, errW_some] <;> rfl), by repeat (first | (with_reducible first | exact HB.out | apply below_alloc | apply pw_below_drewN | apply below_drew1 | refine below_set ?_ GE183.out | refine below_set ?_ GE184.out) | exact HB.out)⟩
  · replace c4 := Bool.eq_false_iff.mpr c4
    subst c4
    have H1 : (some false) = some r := by rw [if_neg (show ¬ (false = true) by decide)] at H; exact H
    clear H
    have H := H1
    clear H1
    obtain rfl := Option.some.inj H
    go_enter Tryd.func22, Tryd.ntmps22
    go_wp2_with (first | ((with_reducible refine gate_dst (N := 2) rfl ?_); refine box_event ?hg (N := 2) ?hd (cs := #[.int .i8 a0_0, .int .i8 a0_1, .int .i8 a0_2, .int .i8 a0_3, .int .i8 a0_4, .int .i8 a0_5, .int .i8 a0_6, .int .i8 a0_7, .int .i8 a0_8, .int .i8 a0_9, .int .i8 a0_10, .int .i8 a0_11, .int .i8 a0_12, .int .i8 a0_13, .int .i8 a0_14, .int .i8 a0_15, .int .i8 a0_16, .int .i8 a0_17, .int .i8 a0_18, .int .i8 a0_19, .int .i8 a0_20, .int .i8 a0_21, .int .i8 a0_22, .int .i8 a0_23, .int .i8 a0_24, .int .i8 a0_25, .int .i8 a0_26, .int .i8 a0_27, .slice A0_28 l0_28.length c0_28]) (t := 32) ?hr ?_; (case hd => rfl); (case hg => rfl); (case hr => first | (go_simp; done) | (go_simp; rfl)); intro gb183 hg w35 hbox hb; have n0_ := Aside0.mk (below_step (by repeat (first | (with_reducible first | exact HB.out | apply below_alloc | apply pw_below_drewN | apply below_drew1) | exact HB.out)) hb); have n1_ := Aside0.mk (hbox); have n2_ := Aside0.mk ((by rw [hg]; exact (below_size (by repeat (first | (with_reducible first | exact HB.out | apply below_alloc | apply pw_below_drewN | apply below_drew1) | exact HB.out))) : w.heap.size ≤ gb183)); have n3_ := Aside0.mk ((by rw [hg]; exact (below_size (by repeat (first | (with_reducible first | exact HB.out | apply below_alloc | apply pw_below_drewN | apply below_drew1) | exact HB.out))) : w.heap.size ≤ gb183)); clear HB; have HB := n0_; have BK183 := n1_; have GW183 := n2_; have GE183 := n3_; clear n0_ n1_ n2_ n3_; clear hb hbox hg) | ((with_reducible refine gate_dst (N := 3) rfl ?_); refine box_event ?hg (N := 3) ?hd (cs := #[.int .i8 a1_0, .int .i8 a1_1, .int .i8 a1_2, .int .i8 a1_3, .int .i8 a1_4, .int .i8 a1_5, .int .i8 a1_6, .int .i8 a1_7, .int .i8 a1_8, .int .i8 a1_9, .int .i8 a1_10, .int .i8 a1_11, .int .i8 a1_12, .int .i8 a1_13, .int .i8 a1_14, .int .i8 a1_15, .int .i8 a1_16, .int .i8 a1_17, .int .i8 a1_18, .int .i8 a1_19, .int .i8 a1_20, .int .i8 a1_21, .int .i8 a1_22, .int .i8 a1_23, .int .i8 a1_24, .int .i8 a1_25, .int .i8 a1_26, .int .i8 a1_27, .slice A1_28 l1_28.length c1_28]) (t := 32) ?hr ?_; (case hd => rfl); (case hg => rfl); (case hr => first | (go_simp; done) | (go_simp; rfl)); intro gb184 hg w36 hbox hb; have n0_ := Aside0.mk (blk_below (g := gb183) (o := .cells #[.int .i8 a0_0, .int .i8 a0_1, .int .i8 a0_2, .int .i8 a0_3, .int .i8 a0_4, .int .i8 a0_5, .int .i8 a0_6, .int .i8 a0_7, .int .i8 a0_8, .int .i8 a0_9, .int .i8 a0_10, .int .i8 a0_11, .int .i8 a0_12, .int .i8 a0_13, .int .i8 a0_14, .int .i8 a0_15, .int .i8 a0_16, .int .i8 a0_17, .int .i8 a0_18, .int .i8 a0_19, .int .i8 a0_20, .int .i8 a0_21, .int .i8 a0_22, .int .i8 a0_23, .int .i8 a0_24, .int .i8 a0_25, .int .i8 a0_26, .int .i8 a0_27, .slice A0_28 l0_28.length c0_28] 32 (0, 0)) (by (with_reducible repeat (first | refine blk_drewN ?_ _ | refine blk_drew ?_ | refine blk_alloc ?_ _)); exact BK183.out) hb); have n1_ := Aside0.mk (below_step (by repeat (first | (with_reducible first | exact HB.out | apply below_alloc | apply pw_below_drewN | apply below_drew1 | refine below_set ?_ GE183.out) | exact HB.out)) hb); have n2_ := Aside0.mk (hbox); have n3_ := Aside0.mk ((by rw [hg]; exact (below_size (by repeat (first | (with_reducible first | exact HB.out | apply below_alloc | apply pw_below_drewN | apply below_drew1 | refine below_set ?_ GE183.out) | exact HB.out))) : w.heap.size ≤ gb184)); have n4_ := Aside0.mk ((by rw [hg]; exact (below_size (by repeat (first | (with_reducible first | exact HB.out | apply below_alloc | apply pw_below_drewN | apply below_drew1 | refine below_set ?_ GE183.out) | exact HB.out))) : w.heap.size ≤ gb184)); have n5_ := Aside0.mk ((by rw [hg]; exact Nat.ne_of_lt (blk_lt (g := gb183) (o := .cells #[.int .i8 a0_0, .int .i8 a0_1, .int .i8 a0_2, .int .i8 a0_3, .int .i8 a0_4, .int .i8 a0_5, .int .i8 a0_6, .int .i8 a0_7, .int .i8 a0_8, .int .i8 a0_9, .int .i8 a0_10, .int .i8 a0_11, .int .i8 a0_12, .int .i8 a0_13, .int .i8 a0_14, .int .i8 a0_15, .int .i8 a0_16, .int .i8 a0_17, .int .i8 a0_18, .int .i8 a0_19, .int .i8 a0_20, .int .i8 a0_21, .int .i8 a0_22, .int .i8 a0_23, .int .i8 a0_24, .int .i8 a0_25, .int .i8 a0_26, .int .i8 a0_27, .slice A0_28 l0_28.length c0_28] 32 (0, 0)) (by (with_reducible repeat (first | refine blk_drewN ?_ _ | refine blk_drew ?_ | refine blk_alloc ?_ _)); exact BK183.out)) : gb183 ≠ gb184)); have n6_ := Aside0.mk ((by rw [hg]; exact Nat.ne_of_gt (blk_lt (g := gb183) (o := .cells #[.int .i8 a0_0, .int .i8 a0_1, .int .i8 a0_2, .int .i8 a0_3, .int .i8 a0_4, .int .i8 a0_5, .int .i8 a0_6, .int .i8 a0_7, .int .i8 a0_8, .int .i8 a0_9, .int .i8 a0_10, .int .i8 a0_11, .int .i8 a0_12, .int .i8 a0_13, .int .i8 a0_14, .int .i8 a0_15, .int .i8 a0_16, .int .i8 a0_17, .int .i8 a0_18, .int .i8 a0_19, .int .i8 a0_20, .int .i8 a0_21, .int .i8 a0_22, .int .i8 a0_23, .int .i8 a0_24, .int .i8 a0_25, .int .i8 a0_26, .int .i8 a0_27, .slice A0_28 l0_28.length c0_28] 32 (0, 0)) (by (with_reducible repeat (first | refine blk_drewN ?_ _ | refine blk_drew ?_ | refine blk_alloc ?_ _)); exact BK183.out)) : gb184 ≠ gb183)); clear BK183; clear HB; have BK183 := n0_; have HB := n1_; have BK184 := n2_; have GW184 := n3_; have GE184 := n4_; have NB183_184 := n5_; have NB184_183 := n6_; clear n0_ n1_ n2_ n3_ n4_ n5_ n6_; clear hb hbox hg) | ((with_reducible refine gate_dst (N := 6) rfl ?_); refine wpList_load_mid rfl 23 (.tmp 5) rfl gb183 0 rfl [.int .i8 a0_0, .int .i8 a0_1, .int .i8 a0_2, .int .i8 a0_3, .int .i8 a0_4, .int .i8 a0_5, .int .i8 a0_6, .int .i8 a0_7, .int .i8 a0_8, .int .i8 a0_9, .int .i8 a0_10, .int .i8 a0_11, .int .i8 a0_12, .int .i8 a0_13, .int .i8 a0_14, .int .i8 a0_15, .int .i8 a0_16, .int .i8 a0_17, .int .i8 a0_18, .int .i8 a0_19, .int .i8 a0_20, .int .i8 a0_21, .int .i8 a0_22, .int .i8 a0_23, .int .i8 a0_24, .int .i8 a0_25] _ (range_partx_ [] [.int .i8 a0_0, .int .i8 a0_1, .int .i8 a0_2, .int .i8 a0_3, .int .i8 a0_4, .int .i8 a0_5, .int .i8 a0_6, .int .i8 a0_7, .int .i8 a0_8, .int .i8 a0_9, .int .i8 a0_10, .int .i8 a0_11, .int .i8 a0_12, .int .i8 a0_13, .int .i8 a0_14, .int .i8 a0_15, .int .i8 a0_16, .int .i8 a0_17, .int .i8 a0_18, .int .i8 a0_19, .int .i8 a0_20, .int .i8 a0_21, .int .i8 a0_22, .int .i8 a0_23, .int .i8 a0_24, .int .i8 a0_25] [.int .i8 a0_26, .int .i8 a0_27, .slice A0_28 l0_28.length c0_28] 0 rfl (by (with_reducible repeat (first | refine blk_drewN ?_ _ | refine blk_drew ?_ | refine blk_alloc ?_ _)); exact BK183.out)) Tryd.underlying23 rfl (by exact (show (Tryd.prog.info? 23).map (·.size) = some 26 by kernel_rfl)) ?_) | ((with_reducible refine gate_dst (N := 8) rfl ?_); refine wpList_load_mid rfl 23 (.tmp 7) rfl gb184 0 rfl [.int .i8 a1_0, .int .i8 a1_1, .int .i8 a1_2, .int .i8 a1_3, .int .i8 a1_4, .int .i8 a1_5, .int .i8 a1_6, .int .i8 a1_7, .int .i8 a1_8, .int .i8 a1_9, .int .i8 a1_10, .int .i8 a1_11, .int .i8 a1_12, .int .i8 a1_13, .int .i8 a1_14, .int .i8 a1_15, .int .i8 a1_16, .int .i8 a1_17, .int .i8 a1_18, .int .i8 a1_19, .int .i8 a1_20, .int .i8 a1_21, .int .i8 a1_22, .int .i8 a1_23, .int .i8 a1_24, .int .i8 a1_25] _ (range_partx_ [] [.int .i8 a1_0, .int .i8 a1_1, .int .i8 a1_2, .int .i8 a1_3, .int .i8 a1_4, .int .i8 a1_5, .int .i8 a1_6, .int .i8 a1_7, .int .i8 a1_8, .int .i8 a1_9, .int .i8 a1_10, .int .i8 a1_11, .int .i8 a1_12, .int .i8 a1_13, .int .i8 a1_14, .int .i8 a1_15, .int .i8 a1_16, .int .i8 a1_17, .int .i8 a1_18, .int .i8 a1_19, .int .i8 a1_20, .int .i8 a1_21, .int .i8 a1_22, .int .i8 a1_23, .int .i8 a1_24, .int .i8 a1_25] [.int .i8 a1_26, .int .i8 a1_27, .slice A1_28 l1_28.length c1_28] 0 rfl (by (with_reducible repeat (first | refine blk_drewN ?_ _ | refine blk_drew ?_ | refine blk_alloc ?_ _)); exact BK184.out)) Tryd.underlying23 rfl (by exact (show (Tryd.prog.info? 23).map (·.size) = some 26 by kernel_rfl)) ?_) | ((with_reducible refine gate_callee (f := 71) rfl ?_); refine goesL_ (some 9) rfl rfl Tryd.func71 (by kernel_rfl) rfl #[.agg #[.int .i8 a0_0, .int .i8 a0_1, .int .i8 a0_2, .int .i8 a0_3, .int .i8 a0_4, .int .i8 a0_5, .int .i8 a0_6, .int .i8 a0_7, .int .i8 a0_8, .int .i8 a0_9, .int .i8 a0_10, .int .i8 a0_11, .int .i8 a0_12, .int .i8 a0_13, .int .i8 a0_14, .int .i8 a0_15, .int .i8 a0_16, .int .i8 a0_17, .int .i8 a0_18, .int .i8 a0_19, .int .i8 a0_20, .int .i8 a0_21, .int .i8 a0_22, .int .i8 a0_23, .int .i8 a0_24, .int .i8 a0_25], .agg #[.int .i8 a1_0, .int .i8 a1_1, .int .i8 a1_2, .int .i8 a1_3, .int .i8 a1_4, .int .i8 a1_5, .int .i8 a1_6, .int .i8 a1_7, .int .i8 a1_8, .int .i8 a1_9, .int .i8 a1_10, .int .i8 a1_11, .int .i8 a1_12, .int .i8 a1_13, .int .i8 a1_14, .int .i8 a1_15, .int .i8 a1_16, .int .i8 a1_17, .int .i8 a1_18, .int .i8 a1_19, .int .i8 a1_20, .int .i8 a1_21, .int .i8 a1_22, .int .i8 a1_23, .int .i8 a1_24, .int .i8 a1_25]] rfl (by (try simp only [List.map_toArray, List.map_cons, List.map_nil]); first | done | rfl | (simp only [List.length_drop, List.length_take]; rfl)) ?_; (with_reducible refine (laws_eqInt8A26.calls k a0_0 a0_1 a0_2 a0_3 a0_4 a0_5 a0_6 a0_7 a0_8 a0_9 a0_10 a0_11 a0_12 a0_13 a0_14 a0_15 a0_16 a0_17 a0_18 a0_19 a0_20 a0_21 a0_22 a0_23 a0_24 a0_25 a1_0 a1_1 a1_2 a1_3 a1_4 a1_5 a1_6 a1_7 a1_8 a1_9 a1_10 a1_11 a1_12 a1_13 a1_14 a1_15 a1_16 a1_17 a1_18 a1_19 a1_20 a1_21 a1_22 a1_23 a1_24 a1_25 false _ A3.out).mono ?_); rintro e w37 ⟨rfl, hb⟩; refine ⟨_, rfl, ?_⟩; have n0_ := Aside0.mk (blk_below (g := gb183) (o := .cells #[.int .i8 a0_0, .int .i8 a0_1, .int .i8 a0_2, .int .i8 a0_3, .int .i8 a0_4, .int .i8 a0_5, .int .i8 a0_6, .int .i8 a0_7, .int .i8 a0_8, .int .i8 a0_9, .int .i8 a0_10, .int .i8 a0_11, .int .i8 a0_12, .int .i8 a0_13, .int .i8 a0_14, .int .i8 a0_15, .int .i8 a0_16, .int .i8 a0_17, .int .i8 a0_18, .int .i8 a0_19, .int .i8 a0_20, .int .i8 a0_21, .int .i8 a0_22, .int .i8 a0_23, .int .i8 a0_24, .int .i8 a0_25, .int .i8 a0_26, .int .i8 a0_27, .slice A0_28 l0_28.length c0_28] 32 (0, 0)) (by (with_reducible repeat (first | refine blk_drewN ?_ _ | refine blk_drew ?_ | refine blk_alloc ?_ _)); exact BK183.out) hb); have n1_ := Aside0.mk (blk_below (g := gb184) (o := .cells #[.int .i8 a1_0, .int .i8 a1_1, .int .i8 a1_2, .int .i8 a1_3, .int .i8 a1_4, .int .i8 a1_5, .int .i8 a1_6, .int .i8 a1_7, .int .i8 a1_8, .int .i8 a1_9, .int .i8 a1_10, .int .i8 a1_11, .int .i8 a1_12, .int .i8 a1_13, .int .i8 a1_14, .int .i8 a1_15, .int .i8 a1_16, .int .i8 a1_17, .int .i8 a1_18, .int .i8 a1_19, .int .i8 a1_20, .int .i8 a1_21, .int .i8 a1_22, .int .i8 a1_23, .int .i8 a1_24, .int .i8 a1_25, .int .i8 a1_26, .int .i8 a1_27, .slice A1_28 l1_28.length c1_28] 32 (0, 0)) (by (with_reducible repeat (first | refine blk_drewN ?_ _ | refine blk_drew ?_ | refine blk_alloc ?_ _)); exact BK184.out) hb); have n2_ := Aside0.mk (below_step (by repeat (first | (with_reducible first | exact HB.out | apply below_alloc | apply pw_below_drewN | apply below_drew1 | refine below_set ?_ GE183.out | refine below_set ?_ GE184.out) | exact HB.out)) hb); clear BK183; clear BK184; clear HB; have BK183 := n0_; have BK184 := n1_; have HB := n2_; clear n0_ n1_ n2_; (try clear hb); (try clear hb2); (try clear hk); (try clear hi)))
    go_ret
    exact ⟨by first | rfl | (simp [errW_none, errW_some] <;> rfl) | (simp [*, errW_none, errW_some] <;> rfl), by repeat (first | (with_reducible first | exact HB.out | apply below_alloc | apply pw_below_drewN | apply below_drew1 | refine below_set ?_ GE183.out | refine below_set ?_ GE184.out) | exact HB.out)⟩

end Go.Proofs.YticjkfacdmmopaaDoor.Q


namespace Go.Proofs.YticjkfacdmmopaaDoor.Pure
open Go.RowKit Go.Proofs.YticjkfacdmmopaaDoor.Ext Go.Proofs.YticjkfacdmmopaaDoor.Q Go.Proofs.YticjkfacdmmopaaDoor.Txt Go.Proofs.YticjkfacdmmopaaDoor.Face Go.Proofs.YticjkfacdmmopaaDoorW.PrintWords Go.Proofs.YticjkfacdmmopaaDoorW.PrintLast Go.Proofs.YticjkfacdmmopaaDoorW.PrintMore
set_option linter.unusedVariables false
set_option linter.unusedSimpArgs false
set_option maxRecDepth 100000
theorem szFace_eq (L : List Int) (lp : List LP) (hp : lp.length ≤ 9223372036854775807) : laws_szFace.f (rd L 0) (rd L 1) (rd L 2) (rd L 3) (rd L 4) (rd L 5) (rd L 6) (rd L 7) (rd L 8) (rd L 9) (rd L 10) (rd L 11) (rd L 12) (rd L 13) (rd L 14) (rd L 15) (rd L 16) (rd L 17) (rd L 18) (rd L 19) (rd L 20) (rd L 21) (rd L 22) (rd L 23) (rd L 24) (rd L 25) (rd L 26) (rd L 27) lp 1048576 = some (if 1048576 < lp.length then -1 else 1048576 - (lp.length : Int)) := by
  unfold laws_szFace.f laws_szPairS.f
  rw [w64 (x := 1048576 - (lp.length : Int)) (by omega) (by omega)]
  by_cases h : 1048576 < lp.length
  · rw [if_pos (by omega), if_pos h, Option.bind_some, if_pos (by omega)]
  · rw [if_neg (by omega), if_neg h, Option.bind_some, if_neg (by omega)]
theorem toFace_eq (L : List Int) (lp : List LP) (hp : lp.length ≤ 1048576) : laws_toFace.f (rd L 0) (rd L 1) (rd L 2) (rd L 3) (rd L 4) (rd L 5) (rd L 6) (rd L 7) (rd L 8) (rd L 9) (rd L 10) (rd L 11) (rd L 12) (rd L 13) (rd L 14) (rd L 15) (rd L 16) (rd L 17) (rd L 18) (rd L 19) (rd L 20) (rd L 21) (rd L 22) (rd L 23) (rd L 24) (rd L 25) (rd L 26) (rd L 27) lp = some (rd L 0, rd L 1, rd L 2, rd L 3, rd L 4, rd L 5, rd L 6, rd L 7, rd L 8, rd L 9, rd L 10, rd L 11, rd L 12, rd L 13, rd L 14, rd L 15, rd L 16, rd L 17, rd L 18, rd L 19, rd L 20, rd L 21, rd L 22, rd L 23, rd L 24, rd L 25, rd L 26, rd L 27, lp.map toP) := by
  unfold laws_toFace.f
  rw [if_pos hp]
theorem eq26_l0 (L : List Int) : ∀ (d k n : Nat), n + d = 26 → d < k → laws_eqInt8A26.l0 k n (rd L 0) (rd L 1) (rd L 2) (rd L 3) (rd L 4) (rd L 5) (rd L 6) (rd L 7) (rd L 8) (rd L 9) (rd L 10) (rd L 11) (rd L 12) (rd L 13) (rd L 14) (rd L 15) (rd L 16) (rd L 17) (rd L 18) (rd L 19) (rd L 20) (rd L 21) (rd L 22) (rd L 23) (rd L 24) (rd L 25) (rd L 0) (rd L 1) (rd L 2) (rd L 3) (rd L 4) (rd L 5) (rd L 6) (rd L 7) (rd L 8) (rd L 9) (rd L 10) (rd L 11) (rd L 12) (rd L 13) (rd L 14) (rd L 15) (rd L 16) (rd L 17) (rd L 18) (rd L 19) (rd L 20) (rd L 21) (rd L 22) (rd L 23) (rd L 24) (rd L 25) = some true
  | 0, k, n, hd, hk => by
    obtain ⟨k, rfl⟩ := some_k hk
    rw [laws_eqInt8A26.l0, if_neg (by omega)]
  | d + 1, k, n, hd, hk => by
    obtain ⟨k, rfl⟩ := some_k hk
    rw [laws_eqInt8A26.l0, if_pos (by omega), if_pos (by omega), if_pos rfl, wrap_succ n (by omega)]
    exact eq26_l0 L d k (n + 1) (by omega) (by omega)
theorem eqPairS_l0 (P : List Pr) (hP : P.length ≤ 4611686018427387904) : ∀ (d k n : Nat), n + d = P.length → d < k → laws_eqPairS.l0 k P P n = some true
  | 0, k, n, hd, hk => by
    obtain ⟨k, rfl⟩ := some_k hk
    rw [laws_eqPairS.l0, if_neg (by omega)]
  | d + 1, k, n, hd, hk => by
    obtain ⟨k, rfl⟩ := some_k hk
    rw [laws_eqPairS.l0, if_pos (by omega), if_pos (by omega), if_pos (by omega), laws_eqPair.f, if_pos rfl, if_pos rfl, if_pos rfl, Option.bind_some, if_pos rfl, wrap_succ n (by omega)]
    exact eqPairS_l0 P hP d k (n + 1) (by omega) (by omega)
theorem eqFace_self (L : List Int) (P : List Pr) (hP : P.length ≤ 1048576) {k : Nat} (hk : 1048577 < k) : laws_eqFace.f k (rd L 0) (rd L 1) (rd L 2) (rd L 3) (rd L 4) (rd L 5) (rd L 6) (rd L 7) (rd L 8) (rd L 9) (rd L 10) (rd L 11) (rd L 12) (rd L 13) (rd L 14) (rd L 15) (rd L 16) (rd L 17) (rd L 18) (rd L 19) (rd L 20) (rd L 21) (rd L 22) (rd L 23) (rd L 24) (rd L 25) (rd L 26) (rd L 27) P (rd L 0) (rd L 1) (rd L 2) (rd L 3) (rd L 4) (rd L 5) (rd L 6) (rd L 7) (rd L 8) (rd L 9) (rd L 10) (rd L 11) (rd L 12) (rd L 13) (rd L 14) (rd L 15) (rd L 16) (rd L 17) (rd L 18) (rd L 19) (rd L 20) (rd L 21) (rd L 22) (rd L 23) (rd L 24) (rd L 25) (rd L 26) (rd L 27) P = some true := by
  unfold laws_eqFace.f laws_eqInt8A26.f laws_eqPairS.f
  have h1 := eq26_l0 L 26 k 0 (by omega) (by omega)
  have h2 := eqPairS_l0 P (by omega) P.length k 0 (by omega) (by omega)
  rw [show ((0 : Nat) : Int) = 0 from rfl] at h1 h2
  rw [h1, Option.bind_some, if_pos rfl, if_pos rfl, if_pos rfl, if_pos rfl, h2, Option.bind_some, if_pos rfl]
theorem size_le {lp : List LP} (h : lp.length ≤ 1048576) : (lp.map toP).length ≤ 1048576 := by rwa [List.length_map]
end Go.Proofs.YticjkfacdmmopaaDoor.Pure


namespace Go.Proofs.YticjkfacdmmopaaDoor.Ext
end Go.Proofs.YticjkfacdmmopaaDoor.Ext
namespace Go.Proofs.YticjkfacdmmopaaDoor.Q
open Go.Proofs.YticjkfacdmmopaaDoor.Ext
open Go.RowKit Go.Proofs.YticjkfacdmmopaaDoorW.PrintWords Go.Proofs.YticjkfacdmmopaaDoorW.PrintLast Go.Proofs.YticjkfacdmmopaaDoorW.PrintMore
attribute [local go_sem] max2_int min2_int max_two min_two max_three min_three max_four min_four   -- for this text's walks alone
set_option linter.unusedVariables false
set_option linter.unusedSimpArgs false

/-! ### laws_FnExactWordWide: function 3 -/
end Go.Proofs.YticjkfacdmmopaaDoor.Q


namespace Go.Proofs.YticjkfacdmmopaaDoor.Ext
end Go.Proofs.YticjkfacdmmopaaDoor.Ext
namespace Go.Proofs.YticjkfacdmmopaaDoor.Q
open Go.Proofs.YticjkfacdmmopaaDoor.Ext
open Go.RowKit Go.Proofs.YticjkfacdmmopaaDoorW.PrintWords Go.Proofs.YticjkfacdmmopaaDoorW.PrintLast Go.Proofs.YticjkfacdmmopaaDoorW.PrintMore
attribute [local go_sem] max2_int min2_int max_two min_two max_three min_three max_four min_four   -- for this text's walks alone
set_option linter.unusedVariables false
set_option linter.unusedSimpArgs false

/-! ### laws_FnExactLineWide: function 4 -/
def laws_FnExactLineWide.j0 : Nat → Bool → Int → Int → Int → Int → Int → Int → Int → Int → Int → Int → Int → Int → Int → Int → Int → Int → Int → Int → Int → Int → Int → Int → Int → Int → Int → Int → Int → Int → List (S139) → Int → Int → Int → Int → Int → Int → Int → Int → Int → Int → Int → Int → Int → Int → Int → Int → Int → Int → Int → Int → Int → Int → Int → Int → Int → Int → Int → Int → List (S137) → Option (Bool)
  | 0, _, _, _, _, _, _, _, _, _, _, _, _, _, _, _, _, _, _, _, _, _, _, _, _, _, _, _, _, _, _, _, _, _, _, _, _, _, _, _, _, _, _, _, _, _, _, _, _, _, _, _, _, _, _, _, _, _, _, _ => none
  | k + 1, x41, x322000, x322001, x322002, x322003, x322004, x322005, x322006, x322007, x322008, x322009, x322010, x322011, x322012, x322013, x322014, x322015, x322016, x322017, x322018, x322019, x322020, x322021, x322022, x322023, x322024, x322025, x322026, x322027, x322028, x388000, x388001, x388002, x388003, x388004, x388005, x388006, x388007, x388008, x388009, x388010, x388011, x388012, x388013, x388014, x388015, x388016, x388017, x388018, x388019, x388020, x388021, x388022, x388023, x388024, x388025, x388026, x388027, x388028 => if x41 = true then (some false) else ((laws_toFace.f x322000 x322001 x322002 x322003 x322004 x322005 x322006 x322007 x322008 x322009 x322010 x322011 x322012 x322013 x322014 x322015 x322016 x322017 x322018 x322019 x322020 x322021 x322022 x322023 x322024 x322025 x322026 x322027 x322028).bind fun bt390 => ((laws_eqFace.f k x388000 x388001 x388002 x388003 x388004 x388005 x388006 x388007 x388008 x388009 x388010 x388011 x388012 x388013 x388014 x388015 x388016 x388017 x388018 x388019 x388020 x388021 x388022 x388023 x388024 x388025 x388026 x388027 x388028 bt390.1 bt390.2.1 bt390.2.2.1 bt390.2.2.2.1 bt390.2.2.2.2.1 bt390.2.2.2.2.2.1 bt390.2.2.2.2.2.2.1 bt390.2.2.2.2.2.2.2.1 bt390.2.2.2.2.2.2.2.2.1 bt390.2.2.2.2.2.2.2.2.2.1 bt390.2.2.2.2.2.2.2.2.2.2.1 bt390.2.2.2.2.2.2.2.2.2.2.2.1 bt390.2.2.2.2.2.2.2.2.2.2.2.2.1 bt390.2.2.2.2.2.2.2.2.2.2.2.2.2.1 bt390.2.2.2.2.2.2.2.2.2.2.2.2.2.2.1 bt390.2.2.2.2.2.2.2.2.2.2.2.2.2.2.2.1 bt390.2.2.2.2.2.2.2.2.2.2.2.2.2.2.2.2.1 bt390.2.2.2.2.2.2.2.2.2.2.2.2.2.2.2.2.2.1 bt390.2.2.2.2.2.2.2.2.2.2.2.2.2.2.2.2.2.2.1 bt390.2.2.2.2.2.2.2.2.2.2.2.2.2.2.2.2.2.2.2.1 bt390.2.2.2.2.2.2.2.2.2.2.2.2.2.2.2.2.2.2.2.2.1 bt390.2.2.2.2.2.2.2.2.2.2.2.2.2.2.2.2.2.2.2.2.2.1 bt390.2.2.2.2.2.2.2.2.2.2.2.2.2.2.2.2.2.2.2.2.2.2.1 bt390.2.2.2.2.2.2.2.2.2.2.2.2.2.2.2.2.2.2.2.2.2.2.2.1 bt390.2.2.2.2.2.2.2.2.2.2.2.2.2.2.2.2.2.2.2.2.2.2.2.2.1 bt390.2.2.2.2.2.2.2.2.2.2.2.2.2.2.2.2.2.2.2.2.2.2.2.2.2.1 bt390.2.2.2.2.2.2.2.2.2.2.2.2.2.2.2.2.2.2.2.2.2.2.2.2.2.2.1 bt390.2.2.2.2.2.2.2.2.2.2.2.2.2.2.2.2.2.2.2.2.2.2.2.2.2.2.2.1 bt390.2.2.2.2.2.2.2.2.2.2.2.2.2.2.2.2.2.2.2.2.2.2.2.2.2.2.2.2).bind fun t421 => (if t421 = true then (some true) else (some false))))
def laws_FnExactLineWide.f (k : Nat) (a0_0 a0_1 a0_2 a0_3 a0_4 a0_5 a0_6 a0_7 a0_8 a0_9 a0_10 a0_11 a0_12 a0_13 a0_14 a0_15 a0_16 a0_17 a0_18 a0_19 a0_20 a0_21 a0_22 a0_23 a0_24 a0_25 a0_26 a0_27 : Int) (l0_28 : List (S139)) (a1 : ByteArray) : Option (Bool) := if (a1.size : Int) > 1048576 then (some true) else ((laws_szFace.f a0_0 a0_1 a0_2 a0_3 a0_4 a0_5 a0_6 a0_7 a0_8 a0_9 a0_10 a0_11 a0_12 a0_13 a0_14 a0_15 a0_16 a0_17 a0_18 a0_19 a0_20 a0_21 a0_22 a0_23 a0_24 a0_25 a0_26 a0_27 l0_28 1048576).bind fun t322 => (if t322 < 0 then (some true) else ((laws_toFace.f a0_0 a0_1 a0_2 a0_3 a0_4 a0_5 a0_6 a0_7 a0_8 a0_9 a0_10 a0_11 a0_12 a0_13 a0_14 a0_15 a0_16 a0_17 a0_18 a0_19 a0_20 a0_21 a0_22 a0_23 a0_24 a0_25 a0_26 a0_27 l0_28).bind fun bt323 => ((spec_LineWide.f k bt323.1 bt323.2.1 bt323.2.2.1 bt323.2.2.2.1 bt323.2.2.2.2.1 bt323.2.2.2.2.2.1 bt323.2.2.2.2.2.2.1 bt323.2.2.2.2.2.2.2.1 bt323.2.2.2.2.2.2.2.2.1 bt323.2.2.2.2.2.2.2.2.2.1 bt323.2.2.2.2.2.2.2.2.2.2.1 bt323.2.2.2.2.2.2.2.2.2.2.2.1 bt323.2.2.2.2.2.2.2.2.2.2.2.2.1 bt323.2.2.2.2.2.2.2.2.2.2.2.2.2.1 bt323.2.2.2.2.2.2.2.2.2.2.2.2.2.2.1 bt323.2.2.2.2.2.2.2.2.2.2.2.2.2.2.2.1 bt323.2.2.2.2.2.2.2.2.2.2.2.2.2.2.2.2.1 bt323.2.2.2.2.2.2.2.2.2.2.2.2.2.2.2.2.2.1 bt323.2.2.2.2.2.2.2.2.2.2.2.2.2.2.2.2.2.2.1 bt323.2.2.2.2.2.2.2.2.2.2.2.2.2.2.2.2.2.2.2.1 bt323.2.2.2.2.2.2.2.2.2.2.2.2.2.2.2.2.2.2.2.2.1 bt323.2.2.2.2.2.2.2.2.2.2.2.2.2.2.2.2.2.2.2.2.2.1 bt323.2.2.2.2.2.2.2.2.2.2.2.2.2.2.2.2.2.2.2.2.2.2.1 bt323.2.2.2.2.2.2.2.2.2.2.2.2.2.2.2.2.2.2.2.2.2.2.2.1 bt323.2.2.2.2.2.2.2.2.2.2.2.2.2.2.2.2.2.2.2.2.2.2.2.2.1 bt323.2.2.2.2.2.2.2.2.2.2.2.2.2.2.2.2.2.2.2.2.2.2.2.2.2.1 bt323.2.2.2.2.2.2.2.2.2.2.2.2.2.2.2.2.2.2.2.2.2.2.2.2.2.2.1 bt323.2.2.2.2.2.2.2.2.2.2.2.2.2.2.2.2.2.2.2.2.2.2.2.2.2.2.2.1 bt323.2.2.2.2.2.2.2.2.2.2.2.2.2.2.2.2.2.2.2.2.2.2.2.2.2.2.2.2 a1).bind fun bt354 => ((laws_toFace.f a0_0 a0_1 a0_2 a0_3 a0_4 a0_5 a0_6 a0_7 a0_8 a0_9 a0_10 a0_11 a0_12 a0_13 a0_14 a0_15 a0_16 a0_17 a0_18 a0_19 a0_20 a0_21 a0_22 a0_23 a0_24 a0_25 a0_26 a0_27 l0_28).bind fun bt356 => ((impl_LineWide.f k bt356.1 bt356.2.1 bt356.2.2.1 bt356.2.2.2.1 bt356.2.2.2.2.1 bt356.2.2.2.2.2.1 bt356.2.2.2.2.2.2.1 bt356.2.2.2.2.2.2.2.1 bt356.2.2.2.2.2.2.2.2.1 bt356.2.2.2.2.2.2.2.2.2.1 bt356.2.2.2.2.2.2.2.2.2.2.1 bt356.2.2.2.2.2.2.2.2.2.2.2.1 bt356.2.2.2.2.2.2.2.2.2.2.2.2.1 bt356.2.2.2.2.2.2.2.2.2.2.2.2.2.1 bt356.2.2.2.2.2.2.2.2.2.2.2.2.2.2.1 bt356.2.2.2.2.2.2.2.2.2.2.2.2.2.2.2.1 bt356.2.2.2.2.2.2.2.2.2.2.2.2.2.2.2.2.1 bt356.2.2.2.2.2.2.2.2.2.2.2.2.2.2.2.2.2.1 bt356.2.2.2.2.2.2.2.2.2.2.2.2.2.2.2.2.2.2.1 bt356.2.2.2.2.2.2.2.2.2.2.2.2.2.2.2.2.2.2.2.1 bt356.2.2.2.2.2.2.2.2.2.2.2.2.2.2.2.2.2.2.2.2.1 bt356.2.2.2.2.2.2.2.2.2.2.2.2.2.2.2.2.2.2.2.2.2.1 bt356.2.2.2.2.2.2.2.2.2.2.2.2.2.2.2.2.2.2.2.2.2.2.1 bt356.2.2.2.2.2.2.2.2.2.2.2.2.2.2.2.2.2.2.2.2.2.2.2.1 bt356.2.2.2.2.2.2.2.2.2.2.2.2.2.2.2.2.2.2.2.2.2.2.2.2.1 bt356.2.2.2.2.2.2.2.2.2.2.2.2.2.2.2.2.2.2.2.2.2.2.2.2.2.1 bt356.2.2.2.2.2.2.2.2.2.2.2.2.2.2.2.2.2.2.2.2.2.2.2.2.2.2.1 bt356.2.2.2.2.2.2.2.2.2.2.2.2.2.2.2.2.2.2.2.2.2.2.2.2.2.2.2.1 bt356.2.2.2.2.2.2.2.2.2.2.2.2.2.2.2.2.2.2.2.2.2.2.2.2.2.2.2.2 a1).bind fun bt388 => (if bt388.1 = bt354.1 then (laws_FnExactLineWide.j0 k (bt388.2 != bt354.2) a0_0 a0_1 a0_2 a0_3 a0_4 a0_5 a0_6 a0_7 a0_8 a0_9 a0_10 a0_11 a0_12 a0_13 a0_14 a0_15 a0_16 a0_17 a0_18 a0_19 a0_20 a0_21 a0_22 a0_23 a0_24 a0_25 a0_26 a0_27 l0_28 bt356.1 bt356.2.1 bt356.2.2.1 bt356.2.2.2.1 bt356.2.2.2.2.1 bt356.2.2.2.2.2.1 bt356.2.2.2.2.2.2.1 bt356.2.2.2.2.2.2.2.1 bt356.2.2.2.2.2.2.2.2.1 bt356.2.2.2.2.2.2.2.2.2.1 bt356.2.2.2.2.2.2.2.2.2.2.1 bt356.2.2.2.2.2.2.2.2.2.2.2.1 bt356.2.2.2.2.2.2.2.2.2.2.2.2.1 bt356.2.2.2.2.2.2.2.2.2.2.2.2.2.1 bt356.2.2.2.2.2.2.2.2.2.2.2.2.2.2.1 bt356.2.2.2.2.2.2.2.2.2.2.2.2.2.2.2.1 bt356.2.2.2.2.2.2.2.2.2.2.2.2.2.2.2.2.1 bt356.2.2.2.2.2.2.2.2.2.2.2.2.2.2.2.2.2.1 bt356.2.2.2.2.2.2.2.2.2.2.2.2.2.2.2.2.2.2.1 bt356.2.2.2.2.2.2.2.2.2.2.2.2.2.2.2.2.2.2.2.1 bt356.2.2.2.2.2.2.2.2.2.2.2.2.2.2.2.2.2.2.2.2.1 bt356.2.2.2.2.2.2.2.2.2.2.2.2.2.2.2.2.2.2.2.2.2.1 bt356.2.2.2.2.2.2.2.2.2.2.2.2.2.2.2.2.2.2.2.2.2.2.1 bt356.2.2.2.2.2.2.2.2.2.2.2.2.2.2.2.2.2.2.2.2.2.2.2.1 bt356.2.2.2.2.2.2.2.2.2.2.2.2.2.2.2.2.2.2.2.2.2.2.2.2.1 bt356.2.2.2.2.2.2.2.2.2.2.2.2.2.2.2.2.2.2.2.2.2.2.2.2.2.1 bt356.2.2.2.2.2.2.2.2.2.2.2.2.2.2.2.2.2.2.2.2.2.2.2.2.2.2.1 bt356.2.2.2.2.2.2.2.2.2.2.2.2.2.2.2.2.2.2.2.2.2.2.2.2.2.2.2.1 bt356.2.2.2.2.2.2.2.2.2.2.2.2.2.2.2.2.2.2.2.2.2.2.2.2.2.2.2.2) else (laws_FnExactLineWide.j0 k true a0_0 a0_1 a0_2 a0_3 a0_4 a0_5 a0_6 a0_7 a0_8 a0_9 a0_10 a0_11 a0_12 a0_13 a0_14 a0_15 a0_16 a0_17 a0_18 a0_19 a0_20 a0_21 a0_22 a0_23 a0_24 a0_25 a0_26 a0_27 l0_28 bt356.1 bt356.2.1 bt356.2.2.1 bt356.2.2.2.1 bt356.2.2.2.2.1 bt356.2.2.2.2.2.1 bt356.2.2.2.2.2.2.1 bt356.2.2.2.2.2.2.2.1 bt356.2.2.2.2.2.2.2.2.1 bt356.2.2.2.2.2.2.2.2.2.1 bt356.2.2.2.2.2.2.2.2.2.2.1 bt356.2.2.2.2.2.2.2.2.2.2.2.1 bt356.2.2.2.2.2.2.2.2.2.2.2.2.1 bt356.2.2.2.2.2.2.2.2.2.2.2.2.2.1 bt356.2.2.2.2.2.2.2.2.2.2.2.2.2.2.1 bt356.2.2.2.2.2.2.2.2.2.2.2.2.2.2.2.1 bt356.2.2.2.2.2.2.2.2.2.2.2.2.2.2.2.2.1 bt356.2.2.2.2.2.2.2.2.2.2.2.2.2.2.2.2.2.1 bt356.2.2.2.2.2.2.2.2.2.2.2.2.2.2.2.2.2.2.1 bt356.2.2.2.2.2.2.2.2.2.2.2.2.2.2.2.2.2.2.2.1 bt356.2.2.2.2.2.2.2.2.2.2.2.2.2.2.2.2.2.2.2.2.1 bt356.2.2.2.2.2.2.2.2.2.2.2.2.2.2.2.2.2.2.2.2.2.1 bt356.2.2.2.2.2.2.2.2.2.2.2.2.2.2.2.2.2.2.2.2.2.2.1 bt356.2.2.2.2.2.2.2.2.2.2.2.2.2.2.2.2.2.2.2.2.2.2.2.1 bt356.2.2.2.2.2.2.2.2.2.2.2.2.2.2.2.2.2.2.2.2.2.2.2.2.1 bt356.2.2.2.2.2.2.2.2.2.2.2.2.2.2.2.2.2.2.2.2.2.2.2.2.2.1 bt356.2.2.2.2.2.2.2.2.2.2.2.2.2.2.2.2.2.2.2.2.2.2.2.2.2.2.1 bt356.2.2.2.2.2.2.2.2.2.2.2.2.2.2.2.2.2.2.2.2.2.2.2.2.2.2.2.1 bt356.2.2.2.2.2.2.2.2.2.2.2.2.2.2.2.2.2.2.2.2.2.2.2.2.2.2.2.2))))))))
theorem laws_FnExactLineWide.mono_l : ∀ k, (∀ y0 y1 y2 y3 y4 y5 y6 y7 y8 y9 y10 y11 y12 y13 y14 y15 y16 y17 y18 y19 y20 y21 y22 y23 y24 y25 y26 y27 y28 y29 y30 y31 y32 y33 y34 y35 y36 y37 y38 y39 y40 y41 y42 y43 y44 y45 y46 y47 y48 y49 y50 y51 y52 y53 y54 y55 y56 y57 y58, LeO (laws_FnExactLineWide.j0 k y0 y1 y2 y3 y4 y5 y6 y7 y8 y9 y10 y11 y12 y13 y14 y15 y16 y17 y18 y19 y20 y21 y22 y23 y24 y25 y26 y27 y28 y29 y30 y31 y32 y33 y34 y35 y36 y37 y38 y39 y40 y41 y42 y43 y44 y45 y46 y47 y48 y49 y50 y51 y52 y53 y54 y55 y56 y57 y58) (laws_FnExactLineWide.j0 (k + 1) y0 y1 y2 y3 y4 y5 y6 y7 y8 y9 y10 y11 y12 y13 y14 y15 y16 y17 y18 y19 y20 y21 y22 y23 y24 y25 y26 y27 y28 y29 y30 y31 y32 y33 y34 y35 y36 y37 y38 y39 y40 y41 y42 y43 y44 y45 y46 y47 y48 y49 y50 y51 y52 y53 y54 y55 y56 y57 y58))
  | 0 => fun _ _ _ _ _ _ _ _ _ _ _ _ _ _ _ _ _ _ _ _ _ _ _ _ _ _ _ _ _ _ _ _ _ _ _ _ _ _ _ _ _ _ _ _ _ _ _ _ _ _ _ _ _ _ _ _ _ _ _ r h => by simp [laws_FnExactLineWide.j0] at h
  | k + 1 => by
    have ih0 := laws_FnExactLineWide.mono_l k
    · intro y0 y1 y2 y3 y4 y5 y6 y7 y8 y9 y10 y11 y12 y13 y14 y15 y16 y17 y18 y19 y20 y21 y22 y23 y24 y25 y26 y27 y28 y29 y30 y31 y32 y33 y34 y35 y36 y37 y38 y39 y40 y41 y42 y43 y44 y45 y46 y47 y48 y49 y50 y51 y52 y53 y54 y55 y56 y57 y58
      unfold laws_FnExactLineWide.j0
      repeat' first
      | (with_reducible exact ih0 _ _ _ _ _ _ _ _ _ _ _ _ _ _ _ _ _ _ _ _ _ _ _ _ _ _ _ _ _ _ _ _ _ _ _ _ _ _ _ _ _ _ _ _ _ _ _ _ _ _ _ _ _ _ _ _ _ _ _)
      | (with_reducible exact impl_LineWide.mono _ _ _ _ _ _ _ _ _ _ _ _ _ _ _ _ _ _ _ _ _ _ _ _ _ _ _ _ _ _ _)
      | (with_reducible exact laws_eqFace.mono _ _ _ _ _ _ _ _ _ _ _ _ _ _ _ _ _ _ _ _ _ _ _ _ _ _ _ _ _ _ _ _ _ _ _ _ _ _ _ _ _ _ _ _ _ _ _ _ _ _ _ _ _ _ _ _ _ _ _)
      | (with_reducible exact spec_LineWide.mono _ _ _ _ _ _ _ _ _ _ _ _ _ _ _ _ _ _ _ _ _ _ _ _ _ _ _ _ _ _ _)
      | (with_reducible exact LeO.refl _)
      | (with_reducible exact LeO.none _)
      | (with_reducible refine LeO.ite ?_ ?_)
      | (with_reducible refine LeO.bind ?_ (fun _ => ?_))
      | exact ih0 _ _ _ _ _ _ _ _ _ _ _ _ _ _ _ _ _ _ _ _ _ _ _ _ _ _ _ _ _ _ _ _ _ _ _ _ _ _ _ _ _ _ _ _ _ _ _ _ _ _ _ _ _ _ _ _ _ _ _
      | exact impl_LineWide.mono _ _ _ _ _ _ _ _ _ _ _ _ _ _ _ _ _ _ _ _ _ _ _ _ _ _ _ _ _ _ _
      | exact laws_eqFace.mono _ _ _ _ _ _ _ _ _ _ _ _ _ _ _ _ _ _ _ _ _ _ _ _ _ _ _ _ _ _ _ _ _ _ _ _ _ _ _ _ _ _ _ _ _ _ _ _ _ _ _ _ _ _ _ _ _ _ _
      | exact spec_LineWide.mono _ _ _ _ _ _ _ _ _ _ _ _ _ _ _ _ _ _ _ _ _ _ _ _ _ _ _ _ _ _ _
      | exact LeO.none _
      | refine LeO.ite ?_ ?_
      | refine LeO.bind ?_ (fun _ => ?_)
theorem laws_FnExactLineWide.mono : ∀ a0 a1 a2 a3 a4 a5 a6 a7 a8 a9 a10 a11 a12 a13 a14 a15 a16 a17 a18 a19 a20 a21 a22 a23 a24 a25 a26 a27 a28 a29 k, LeO (laws_FnExactLineWide.f k a0 a1 a2 a3 a4 a5 a6 a7 a8 a9 a10 a11 a12 a13 a14 a15 a16 a17 a18 a19 a20 a21 a22 a23 a24 a25 a26 a27 a28 a29) (laws_FnExactLineWide.f (k + 1) a0 a1 a2 a3 a4 a5 a6 a7 a8 a9 a10 a11 a12 a13 a14 a15 a16 a17 a18 a19 a20 a21 a22 a23 a24 a25 a26 a27 a28 a29) := by
  intro a0 a1 a2 a3 a4 a5 a6 a7 a8 a9 a10 a11 a12 a13 a14 a15 a16 a17 a18 a19 a20 a21 a22 a23 a24 a25 a26 a27 a28 a29 k
  have ih0 := laws_FnExactLineWide.mono_l k
  unfold laws_FnExactLineWide.f
  repeat' first
      | (with_reducible exact ih0 _ _ _ _ _ _ _ _ _ _ _ _ _ _ _ _ _ _ _ _ _ _ _ _ _ _ _ _ _ _ _ _ _ _ _ _ _ _ _ _ _ _ _ _ _ _ _ _ _ _ _ _ _ _ _ _ _ _ _)
      | (with_reducible exact impl_LineWide.mono _ _ _ _ _ _ _ _ _ _ _ _ _ _ _ _ _ _ _ _ _ _ _ _ _ _ _ _ _ _ _)
      | (with_reducible exact laws_eqFace.mono _ _ _ _ _ _ _ _ _ _ _ _ _ _ _ _ _ _ _ _ _ _ _ _ _ _ _ _ _ _ _ _ _ _ _ _ _ _ _ _ _ _ _ _ _ _ _ _ _ _ _ _ _ _ _ _ _ _ _)
      | (with_reducible exact spec_LineWide.mono _ _ _ _ _ _ _ _ _ _ _ _ _ _ _ _ _ _ _ _ _ _ _ _ _ _ _ _ _ _ _)
      | (with_reducible exact LeO.refl _)
      | (with_reducible exact LeO.none _)
      | (with_reducible refine LeO.ite ?_ ?_)
      | (with_reducible refine LeO.bind ?_ (fun _ => ?_))
      | exact ih0 _ _ _ _ _ _ _ _ _ _ _ _ _ _ _ _ _ _ _ _ _ _ _ _ _ _ _ _ _ _ _ _ _ _ _ _ _ _ _ _ _ _ _ _ _ _ _ _ _ _ _ _ _ _ _ _ _ _ _
      | exact impl_LineWide.mono _ _ _ _ _ _ _ _ _ _ _ _ _ _ _ _ _ _ _ _ _ _ _ _ _ _ _ _ _ _ _
      | exact laws_eqFace.mono _ _ _ _ _ _ _ _ _ _ _ _ _ _ _ _ _ _ _ _ _ _ _ _ _ _ _ _ _ _ _ _ _ _ _ _ _ _ _ _ _ _ _ _ _ _ _ _ _ _ _ _ _ _ _ _ _ _ _
      | exact spec_LineWide.mono _ _ _ _ _ _ _ _ _ _ _ _ _ _ _ _ _ _ _ _ _ _ _ _ _ _ _ _ _ _ _
      | exact LeO.none _
      | refine LeO.ite ?_ ?_
      | refine LeO.bind ?_ (fun _ => ?_)
set_option maxHeartbeats 8000000 in
set_option maxRecDepth 100000 in
theorem laws_FnExactLineWide.calls (k : Nat) (a0_0 a0_1 a0_2 a0_3 a0_4 a0_5 a0_6 a0_7 a0_8 a0_9 a0_10 a0_11 a0_12 a0_13 a0_14 a0_15 a0_16 a0_17 a0_18 a0_19 a0_20 a0_21 a0_22 a0_23 a0_24 a0_25 a0_26 a0_27 : Int) (A0_28 : Option Addr) (c0_28 : Nat) (l0_28 : List (S139)) (a1 : ByteArray) (r : Bool) (w : World) (hr0_28 : Kd.C k139 w A0_28 l0_28.length l0_28) (hc0_28 : l0_28.length ≤ c0_28) (hG : GlobM w) (h : laws_FnExactLineWide.f k a0_0 a0_1 a0_2 a0_3 a0_4 a0_5 a0_6 a0_7 a0_8 a0_9 a0_10 a0_11 a0_12 a0_13 a0_14 a0_15 a0_16 a0_17 a0_18 a0_19 a0_20 a0_21 a0_22 a0_23 a0_24 a0_25 a0_26 a0_27 l0_28 a1 = some r) :
    Calls Tryd.prog 4 #[.agg #[.int .i8 a0_0, .int .i8 a0_1, .int .i8 a0_2, .int .i8 a0_3, .int .i8 a0_4, .int .i8 a0_5, .int .i8 a0_6, .int .i8 a0_7, .int .i8 a0_8, .int .i8 a0_9, .int .i8 a0_10, .int .i8 a0_11, .int .i8 a0_12, .int .i8 a0_13, .int .i8 a0_14, .int .i8 a0_15, .int .i8 a0_16, .int .i8 a0_17, .int .i8 a0_18, .int .i8 a0_19, .int .i8 a0_20, .int .i8 a0_21, .int .i8 a0_22, .int .i8 a0_23, .int .i8 a0_24, .int .i8 a0_25, .int .i8 a0_26, .int .i8 a0_27, .slice A0_28 l0_28.length c0_28], .string a1] w fun e w' => e = .returned (.bool r) ∧ Below w.heap.size w w' := by
  have HG := Aside0.mk hG
  clear hG
  have hu26 := Tryd.underlying26
  have hu32 := Tryd.underlying32
  have HR0_28 := Aside0.mk hr0_28
  have HC0_28 := Aside0.mk hc0_28
  clear hr0_28 hc0_28
  have HB := Aside0.mk (Below.refl w.heap.size w)
  have H : (if (a1.size : Int) > 1048576 then (some true) else ((laws_szFace.f a0_0 a0_1 a0_2 a0_3 a0_4 a0_5 a0_6 a0_7 a0_8 a0_9 a0_10 a0_11 a0_12 a0_13 a0_14 a0_15 a0_16 a0_17 a0_18 a0_19 a0_20 a0_21 a0_22 a0_23 a0_24 a0_25 a0_26 a0_27 l0_28 1048576).bind fun t322 => (if t322 < 0 then (some true) else ((laws_toFace.f a0_0 a0_1 a0_2 a0_3 a0_4 a0_5 a0_6 a0_7 a0_8 a0_9 a0_10 a0_11 a0_12 a0_13 a0_14 a0_15 a0_16 a0_17 a0_18 a0_19 a0_20 a0_21 a0_22 a0_23 a0_24 a0_25 a0_26 a0_27 l0_28).bind fun bt323 => ((spec_LineWide.f k bt323.1 bt323.2.1 bt323.2.2.1 bt323.2.2.2.1 bt323.2.2.2.2.1 bt323.2.2.2.2.2.1 bt323.2.2.2.2.2.2.1 bt323.2.2.2.2.2.2.2.1 bt323.2.2.2.2.2.2.2.2.1 bt323.2.2.2.2.2.2.2.2.2.1 bt323.2.2.2.2.2.2.2.2.2.2.1 bt323.2.2.2.2.2.2.2.2.2.2.2.1 bt323.2.2.2.2.2.2.2.2.2.2.2.2.1 bt323.2.2.2.2.2.2.2.2.2.2.2.2.2.1 bt323.2.2.2.2.2.2.2.2.2.2.2.2.2.2.1 bt323.2.2.2.2.2.2.2.2.2.2.2.2.2.2.2.1 bt323.2.2.2.2.2.2.2.2.2.2.2.2.2.2.2.2.1 bt323.2.2.2.2.2.2.2.2.2.2.2.2.2.2.2.2.2.1 bt323.2.2.2.2.2.2.2.2.2.2.2.2.2.2.2.2.2.2.1 bt323.2.2.2.2.2.2.2.2.2.2.2.2.2.2.2.2.2.2.2.1 bt323.2.2.2.2.2.2.2.2.2.2.2.2.2.2.2.2.2.2.2.2.1 bt323.2.2.2.2.2.2.2.2.2.2.2.2.2.2.2.2.2.2.2.2.2.1 bt323.2.2.2.2.2.2.2.2.2.2.2.2.2.2.2.2.2.2.2.2.2.2.1 bt323.2.2.2.2.2.2.2.2.2.2.2.2.2.2.2.2.2.2.2.2.2.2.2.1 bt323.2.2.2.2.2.2.2.2.2.2.2.2.2.2.2.2.2.2.2.2.2.2.2.2.1 bt323.2.2.2.2.2.2.2.2.2.2.2.2.2.2.2.2.2.2.2.2.2.2.2.2.2.1 bt323.2.2.2.2.2.2.2.2.2.2.2.2.2.2.2.2.2.2.2.2.2.2.2.2.2.2.1 bt323.2.2.2.2.2.2.2.2.2.2.2.2.2.2.2.2.2.2.2.2.2.2.2.2.2.2.2.1 bt323.2.2.2.2.2.2.2.2.2.2.2.2.2.2.2.2.2.2.2.2.2.2.2.2.2.2.2.2 a1).bind fun bt354 => ((laws_toFace.f a0_0 a0_1 a0_2 a0_3 a0_4 a0_5 a0_6 a0_7 a0_8 a0_9 a0_10 a0_11 a0_12 a0_13 a0_14 a0_15 a0_16 a0_17 a0_18 a0_19 a0_20 a0_21 a0_22 a0_23 a0_24 a0_25 a0_26 a0_27 l0_28).bind fun bt356 => ((impl_LineWide.f k bt356.1 bt356.2.1 bt356.2.2.1 bt356.2.2.2.1 bt356.2.2.2.2.1 bt356.2.2.2.2.2.1 bt356.2.2.2.2.2.2.1 bt356.2.2.2.2.2.2.2.1 bt356.2.2.2.2.2.2.2.2.1 bt356.2.2.2.2.2.2.2.2.2.1 bt356.2.2.2.2.2.2.2.2.2.2.1 bt356.2.2.2.2.2.2.2.2.2.2.2.1 bt356.2.2.2.2.2.2.2.2.2.2.2.2.1 bt356.2.2.2.2.2.2.2.2.2.2.2.2.2.1 bt356.2.2.2.2.2.2.2.2.2.2.2.2.2.2.1 bt356.2.2.2.2.2.2.2.2.2.2.2.2.2.2.2.1 bt356.2.2.2.2.2.2.2.2.2.2.2.2.2.2.2.2.1 bt356.2.2.2.2.2.2.2.2.2.2.2.2.2.2.2.2.2.1 bt356.2.2.2.2.2.2.2.2.2.2.2.2.2.2.2.2.2.2.1 bt356.2.2.2.2.2.2.2.2.2.2.2.2.2.2.2.2.2.2.2.1 bt356.2.2.2.2.2.2.2.2.2.2.2.2.2.2.2.2.2.2.2.2.1 bt356.2.2.2.2.2.2.2.2.2.2.2.2.2.2.2.2.2.2.2.2.2.1 bt356.2.2.2.2.2.2.2.2.2.2.2.2.2.2.2.2.2.2.2.2.2.2.1 bt356.2.2.2.2.2.2.2.2.2.2.2.2.2.2.2.2.2.2.2.2.2.2.2.1 bt356.2.2.2.2.2.2.2.2.2.2.2.2.2.2.2.2.2.2.2.2.2.2.2.2.1 bt356.2.2.2.2.2.2.2.2.2.2.2.2.2.2.2.2.2.2.2.2.2.2.2.2.2.1 bt356.2.2.2.2.2.2.2.2.2.2.2.2.2.2.2.2.2.2.2.2.2.2.2.2.2.2.1 bt356.2.2.2.2.2.2.2.2.2.2.2.2.2.2.2.2.2.2.2.2.2.2.2.2.2.2.2.1 bt356.2.2.2.2.2.2.2.2.2.2.2.2.2.2.2.2.2.2.2.2.2.2.2.2.2.2.2.2 a1).bind fun bt388 => (if bt388.1 = bt354.1 then (laws_FnExactLineWide.j0 k (bt388.2 != bt354.2) a0_0 a0_1 a0_2 a0_3 a0_4 a0_5 a0_6 a0_7 a0_8 a0_9 a0_10 a0_11 a0_12 a0_13 a0_14 a0_15 a0_16 a0_17 a0_18 a0_19 a0_20 a0_21 a0_22 a0_23 a0_24 a0_25 a0_26 a0_27 l0_28 bt356.1 bt356.2.1 bt356.2.2.1 bt356.2.2.2.1 bt356.2.2.2.2.1 bt356.2.2.2.2.2.1 bt356.2.2.2.2.2.2.1 bt356.2.2.2.2.2.2.2.1 bt356.2.2.2.2.2.2.2.2.1 bt356.2.2.2.2.2.2.2.2.2.1 bt356.2.2.2.2.2.2.2.2.2.2.1 bt356.2.2.2.2.2.2.2.2.2.2.2.1 bt356.2.2.2.2.2.2.2.2.2.2.2.2.1 bt356.2.2.2.2.2.2.2.2.2.2.2.2.2.1 bt356.2.2.2.2.2.2.2.2.2.2.2.2.2.2.1 bt356.2.2.2.2.2.2.2.2.2.2.2.2.2.2.2.1 bt356.2.2.2.2.2.2.2.2.2.2.2.2.2.2.2.2.1 bt356.2.2.2.2.2.2.2.2.2.2.2.2.2.2.2.2.2.1 bt356.2.2.2.2.2.2.2.2.2.2.2.2.2.2.2.2.2.2.1 bt356.2.2.2.2.2.2.2.2.2.2.2.2.2.2.2.2.2.2.2.1 bt356.2.2.2.2.2.2.2.2.2.2.2.2.2.2.2.2.2.2.2.2.1 bt356.2.2.2.2.2.2.2.2.2.2.2.2.2.2.2.2.2.2.2.2.2.1 bt356.2.2.2.2.2.2.2.2.2.2.2.2.2.2.2.2.2.2.2.2.2.2.1 bt356.2.2.2.2.2.2.2.2.2.2.2.2.2.2.2.2.2.2.2.2.2.2.2.1 bt356.2.2.2.2.2.2.2.2.2.2.2.2.2.2.2.2.2.2.2.2.2.2.2.2.1 bt356.2.2.2.2.2.2.2.2.2.2.2.2.2.2.2.2.2.2.2.2.2.2.2.2.2.1 bt356.2.2.2.2.2.2.2.2.2.2.2.2.2.2.2.2.2.2.2.2.2.2.2.2.2.2.1 bt356.2.2.2.2.2.2.2.2.2.2.2.2.2.2.2.2.2.2.2.2.2.2.2.2.2.2.2.1 bt356.2.2.2.2.2.2.2.2.2.2.2.2.2.2.2.2.2.2.2.2.2.2.2.2.2.2.2.2) else (laws_FnExactLineWide.j0 k true a0_0 a0_1 a0_2 a0_3 a0_4 a0_5 a0_6 a0_7 a0_8 a0_9 a0_10 a0_11 a0_12 a0_13 a0_14 a0_15 a0_16 a0_17 a0_18 a0_19 a0_20 a0_21 a0_22 a0_23 a0_24 a0_25 a0_26 a0_27 l0_28 bt356.1 bt356.2.1 bt356.2.2.1 bt356.2.2.2.1 bt356.2.2.2.2.1 bt356.2.2.2.2.2.1 bt356.2.2.2.2.2.2.1 bt356.2.2.2.2.2.2.2.1 bt356.2.2.2.2.2.2.2.2.1 bt356.2.2.2.2.2.2.2.2.2.1 bt356.2.2.2.2.2.2.2.2.2.2.1 bt356.2.2.2.2.2.2.2.2.2.2.2.1 bt356.2.2.2.2.2.2.2.2.2.2.2.2.1 bt356.2.2.2.2.2.2.2.2.2.2.2.2.2.1 bt356.2.2.2.2.2.2.2.2.2.2.2.2.2.2.1 bt356.2.2.2.2.2.2.2.2.2.2.2.2.2.2.2.1 bt356.2.2.2.2.2.2.2.2.2.2.2.2.2.2.2.2.1 bt356.2.2.2.2.2.2.2.2.2.2.2.2.2.2.2.2.2.1 bt356.2.2.2.2.2.2.2.2.2.2.2.2.2.2.2.2.2.2.1 bt356.2.2.2.2.2.2.2.2.2.2.2.2.2.2.2.2.2.2.2.1 bt356.2.2.2.2.2.2.2.2.2.2.2.2.2.2.2.2.2.2.2.2.1 bt356.2.2.2.2.2.2.2.2.2.2.2.2.2.2.2.2.2.2.2.2.2.1 bt356.2.2.2.2.2.2.2.2.2.2.2.2.2.2.2.2.2.2.2.2.2.2.1 bt356.2.2.2.2.2.2.2.2.2.2.2.2.2.2.2.2.2.2.2.2.2.2.2.1 bt356.2.2.2.2.2.2.2.2.2.2.2.2.2.2.2.2.2.2.2.2.2.2.2.2.1 bt356.2.2.2.2.2.2.2.2.2.2.2.2.2.2.2.2.2.2.2.2.2.2.2.2.2.1 bt356.2.2.2.2.2.2.2.2.2.2.2.2.2.2.2.2.2.2.2.2.2.2.2.2.2.2.1 bt356.2.2.2.2.2.2.2.2.2.2.2.2.2.2.2.2.2.2.2.2.2.2.2.2.2.2.2.1 bt356.2.2.2.2.2.2.2.2.2.2.2.2.2.2.2.2.2.2.2.2.2.2.2.2.2.2.2.2))))))))) = some r := h
  clear h
  by_cases c3 : (a1.size : Int) > 1048576
  · rw [if_pos c3] at H
    have c3b0 : decide (1048576 < (a1.size : Int)) = true := decide_eq_true c3
    have c3b1 : decide (1048576 < a1.size) = true := decide_eq_true (by omega)
    clear c3
    obtain rfl := Option.some.inj H
    go_enter Tryd.func4, Tryd.ntmps4
    go_wp2_with (first | ((with_reducible refine gate_dst (N := 2) rfl ?_); refine box_event ?hg (N := 2) ?hd (cs := #[.int .i8 a0_0, .int .i8 a0_1, .int .i8 a0_2, .int .i8 a0_3, .int .i8 a0_4, .int .i8 a0_5, .int .i8 a0_6, .int .i8 a0_7, .int .i8 a0_8, .int .i8 a0_9, .int .i8 a0_10, .int .i8 a0_11, .int .i8 a0_12, .int .i8 a0_13, .int .i8 a0_14, .int .i8 a0_15, .int .i8 a0_16, .int .i8 a0_17, .int .i8 a0_18, .int .i8 a0_19, .int .i8 a0_20, .int .i8 a0_21, .int .i8 a0_22, .int .i8 a0_23, .int .i8 a0_24, .int .i8 a0_25, .int .i8 a0_26, .int .i8 a0_27, .slice A0_28 l0_28.length c0_28]) (t := 26) ?hr ?_; (case hd => rfl); (case hg => rfl); (case hr => first | (go_simp; done) | (go_simp; rfl)); intro gb321 hg w4 hbox hb; have n0_ := Aside0.mk (below_step (by repeat (first | (with_reducible first | exact HB.out | apply below_alloc | apply pw_below_drewN | apply below_drew1) | exact HB.out)) hb); have n1_ := Aside0.mk (hbox); have n2_ := Aside0.mk ((by rw [hg]; exact (below_size (by repeat (first | (with_reducible first | exact HB.out | apply below_alloc | apply pw_below_drewN | apply below_drew1) | exact HB.out))) : w.heap.size ≤ gb321)); have n3_ := Aside0.mk ((by rw [hg]; exact (below_size (by repeat (first | (with_reducible first | exact HB.out | apply below_alloc | apply pw_below_drewN | apply below_drew1) | exact HB.out))) : w.heap.size ≤ gb321)); clear HB; have HB := n0_; have BK321 := n1_; have GW321 := n2_; have GE321 := n3_; clear n0_ n1_ n2_ n3_; clear hb hbox hg))
    go_ret
    exact ⟨by first | rfl | (simp [errW_none, errW_some] <;> rfl) | (simp [*, errW_none, errW_some] <;> rfl), by repeat (first | (with_reducible first | exact HB.out | apply below_alloc | apply pw_below_drewN | apply below_drew1 | refine below_set ?_ GE321.out) | exact HB.out)⟩
  · rw [if_neg c3] at H
    have c3b0 : decide (1048576 < (a1.size : Int)) = false := decide_eq_false c3
    have c3b1 : decide (1048576 < a1.size) = false := decide_eq_false (by omega)
    clear c3
    replace H := Option.bind_eq_some_iff.mp H
    obtain ⟨t322, A50, H⟩ := H
    replace H : (if t322 < 0 then (some true) else ((laws_toFace.f a0_0 a0_1 a0_2 a0_3 a0_4 a0_5 a0_6 a0_7 a0_8 a0_9 a0_10 a0_11 a0_12 a0_13 a0_14 a0_15 a0_16 a0_17 a0_18 a0_19 a0_20 a0_21 a0_22 a0_23 a0_24 a0_25 a0_26 a0_27 l0_28).bind fun bt323 => ((spec_LineWide.f k bt323.1 bt323.2.1 bt323.2.2.1 bt323.2.2.2.1 bt323.2.2.2.2.1 bt323.2.2.2.2.2.1 bt323.2.2.2.2.2.2.1 bt323.2.2.2.2.2.2.2.1 bt323.2.2.2.2.2.2.2.2.1 bt323.2.2.2.2.2.2.2.2.2.1 bt323.2.2.2.2.2.2.2.2.2.2.1 bt323.2.2.2.2.2.2.2.2.2.2.2.1 bt323.2.2.2.2.2.2.2.2.2.2.2.2.1 bt323.2.2.2.2.2.2.2.2.2.2.2.2.2.1 bt323.2.2.2.2.2.2.2.2.2.2.2.2.2.2.1 bt323.2.2.2.2.2.2.2.2.2.2.2.2.2.2.2.1 bt323.2.2.2.2.2.2.2.2.2.2.2.2.2.2.2.2.1 bt323.2.2.2.2.2.2.2.2.2.2.2.2.2.2.2.2.2.1 bt323.2.2.2.2.2.2.2.2.2.2.2.2.2.2.2.2.2.2.1 bt323.2.2.2.2.2.2.2.2.2.2.2.2.2.2.2.2.2.2.2.1 bt323.2.2.2.2.2.2.2.2.2.2.2.2.2.2.2.2.2.2.2.2.1 bt323.2.2.2.2.2.2.2.2.2.2.2.2.2.2.2.2.2.2.2.2.2.1 bt323.2.2.2.2.2.2.2.2.2.2.2.2.2.2.2.2.2.2.2.2.2.2.1 bt323.2.2.2.2.2.2.2.2.2.2.2.2.2.2.2.2.2.2.2.2.2.2.2.1 bt323.2.2.2.2.2.2.2.2.2.2.2.2.2.2.2.2.2.2.2.2.2.2.2.2.1 bt323.2.2.2.2.2.2.2.2.2.2.2.2.2.2.2.2.2.2.2.2.2.2.2.2.2.1 bt323.2.2.2.2.2.2.2.2.2.2.2.2.2.2.2.2.2.2.2.2.2.2.2.2.2.2.1 bt323.2.2.2.2.2.2.2.2.2.2.2.2.2.2.2.2.2.2.2.2.2.2.2.2.2.2.2.1 bt323.2.2.2.2.2.2.2.2.2.2.2.2.2.2.2.2.2.2.2.2.2.2.2.2.2.2.2.2 a1).bind fun bt354 => ((laws_toFace.f a0_0 a0_1 a0_2 a0_3 a0_4 a0_5 a0_6 a0_7 a0_8 a0_9 a0_10 a0_11 a0_12 a0_13 a0_14 a0_15 a0_16 a0_17 a0_18 a0_19 a0_20 a0_21 a0_22 a0_23 a0_24 a0_25 a0_26 a0_27 l0_28).bind fun bt356 => ((impl_LineWide.f k bt356.1 bt356.2.1 bt356.2.2.1 bt356.2.2.2.1 bt356.2.2.2.2.1 bt356.2.2.2.2.2.1 bt356.2.2.2.2.2.2.1 bt356.2.2.2.2.2.2.2.1 bt356.2.2.2.2.2.2.2.2.1 bt356.2.2.2.2.2.2.2.2.2.1 bt356.2.2.2.2.2.2.2.2.2.2.1 bt356.2.2.2.2.2.2.2.2.2.2.2.1 bt356.2.2.2.2.2.2.2.2.2.2.2.2.1 bt356.2.2.2.2.2.2.2.2.2.2.2.2.2.1 bt356.2.2.2.2.2.2.2.2.2.2.2.2.2.2.1 bt356.2.2.2.2.2.2.2.2.2.2.2.2.2.2.2.1 bt356.2.2.2.2.2.2.2.2.2.2.2.2.2.2.2.2.1 bt356.2.2.2.2.2.2.2.2.2.2.2.2.2.2.2.2.2.1 bt356.2.2.2.2.2.2.2.2.2.2.2.2.2.2.2.2.2.2.1 bt356.2.2.2.2.2.2.2.2.2.2.2.2.2.2.2.2.2.2.2.1 bt356.2.2.2.2.2.2.2.2.2.2.2.2.2.2.2.2.2.2.2.2.1 bt356.2.2.2.2.2.2.2.2.2.2.2.2.2.2.2.2.2.2.2.2.2.1 bt356.2.2.2.2.2.2.2.2.2.2.2.2.2.2.2.2.2.2.2.2.2.2.1 bt356.2.2.2.2.2.2.2.2.2.2.2.2.2.2.2.2.2.2.2.2.2.2.2.1 bt356.2.2.2.2.2.2.2.2.2.2.2.2.2.2.2.2.2.2.2.2.2.2.2.2.1 bt356.2.2.2.2.2.2.2.2.2.2.2.2.2.2.2.2.2.2.2.2.2.2.2.2.2.1 bt356.2.2.2.2.2.2.2.2.2.2.2.2.2.2.2.2.2.2.2.2.2.2.2.2.2.2.1 bt356.2.2.2.2.2.2.2.2.2.2.2.2.2.2.2.2.2.2.2.2.2.2.2.2.2.2.2.1 bt356.2.2.2.2.2.2.2.2.2.2.2.2.2.2.2.2.2.2.2.2.2.2.2.2.2.2.2.2 a1).bind fun bt388 => (if bt388.1 = bt354.1 then (laws_FnExactLineWide.j0 k (bt388.2 != bt354.2) a0_0 a0_1 a0_2 a0_3 a0_4 a0_5 a0_6 a0_7 a0_8 a0_9 a0_10 a0_11 a0_12 a0_13 a0_14 a0_15 a0_16 a0_17 a0_18 a0_19 a0_20 a0_21 a0_22 a0_23 a0_24 a0_25 a0_26 a0_27 l0_28 bt356.1 bt356.2.1 bt356.2.2.1 bt356.2.2.2.1 bt356.2.2.2.2.1 bt356.2.2.2.2.2.1 bt356.2.2.2.2.2.2.1 bt356.2.2.2.2.2.2.2.1 bt356.2.2.2.2.2.2.2.2.1 bt356.2.2.2.2.2.2.2.2.2.1 bt356.2.2.2.2.2.2.2.2.2.2.1 bt356.2.2.2.2.2.2.2.2.2.2.2.1 bt356.2.2.2.2.2.2.2.2.2.2.2.2.1 bt356.2.2.2.2.2.2.2.2.2.2.2.2.2.1 bt356.2.2.2.2.2.2.2.2.2.2.2.2.2.2.1 bt356.2.2.2.2.2.2.2.2.2.2.2.2.2.2.2.1 bt356.2.2.2.2.2.2.2.2.2.2.2.2.2.2.2.2.1 bt356.2.2.2.2.2.2.2.2.2.2.2.2.2.2.2.2.2.1 bt356.2.2.2.2.2.2.2.2.2.2.2.2.2.2.2.2.2.2.1 bt356.2.2.2.2.2.2.2.2.2.2.2.2.2.2.2.2.2.2.2.1 bt356.2.2.2.2.2.2.2.2.2.2.2.2.2.2.2.2.2.2.2.2.1 bt356.2.2.2.2.2.2.2.2.2.2.2.2.2.2.2.2.2.2.2.2.2.1 bt356.2.2.2.2.2.2.2.2.2.2.2.2.2.2.2.2.2.2.2.2.2.2.1 bt356.2.2.2.2.2.2.2.2.2.2.2.2.2.2.2.2.2.2.2.2.2.2.2.1 bt356.2.2.2.2.2.2.2.2.2.2.2.2.2.2.2.2.2.2.2.2.2.2.2.2.1 bt356.2.2.2.2.2.2.2.2.2.2.2.2.2.2.2.2.2.2.2.2.2.2.2.2.2.1 bt356.2.2.2.2.2.2.2.2.2.2.2.2.2.2.2.2.2.2.2.2.2.2.2.2.2.2.1 bt356.2.2.2.2.2.2.2.2.2.2.2.2.2.2.2.2.2.2.2.2.2.2.2.2.2.2.2.1 bt356.2.2.2.2.2.2.2.2.2.2.2.2.2.2.2.2.2.2.2.2.2.2.2.2.2.2.2.2) else (laws_FnExactLineWide.j0 k true a0_0 a0_1 a0_2 a0_3 a0_4 a0_5 a0_6 a0_7 a0_8 a0_9 a0_10 a0_11 a0_12 a0_13 a0_14 a0_15 a0_16 a0_17 a0_18 a0_19 a0_20 a0_21 a0_22 a0_23 a0_24 a0_25 a0_26 a0_27 l0_28 bt356.1 bt356.2.1 bt356.2.2.1 bt356.2.2.2.1 bt356.2.2.2.2.1 bt356.2.2.2.2.2.1 bt356.2.2.2.2.2.2.1 bt356.2.2.2.2.2.2.2.1 bt356.2.2.2.2.2.2.2.2.1 bt356.2.2.2.2.2.2.2.2.2.1 bt356.2.2.2.2.2.2.2.2.2.2.1 bt356.2.2.2.2.2.2.2.2.2.2.2.1 bt356.2.2.2.2.2.2.2.2.2.2.2.2.1 bt356.2.2.2.2.2.2.2.2.2.2.2.2.2.1 bt356.2.2.2.2.2.2.2.2.2.2.2.2.2.2.1 bt356.2.2.2.2.2.2.2.2.2.2.2.2.2.2.2.1 bt356.2.2.2.2.2.2.2.2.2.2.2.2.2.2.2.2.1 bt356.2.2.2.2.2.2.2.2.2.2.2.2.2.2.2.2.2.1 bt356.2.2.2.2.2.2.2.2.2.2.2.2.2.2.2.2.2.2.1 bt356.2.2.2.2.2.2.2.2.2.2.2.2.2.2.2.2.2.2.2.1 bt356.2.2.2.2.2.2.2.2.2.2.2.2.2.2.2.2.2.2.2.2.1 bt356.2.2.2.2.2.2.2.2.2.2.2.2.2.2.2.2.2.2.2.2.2.1 bt356.2.2.2.2.2.2.2.2.2.2.2.2.2.2.2.2.2.2.2.2.2.2.1 bt356.2.2.2.2.2.2.2.2.2.2.2.2.2.2.2.2.2.2.2.2.2.2.2.1 bt356.2.2.2.2.2.2.2.2.2.2.2.2.2.2.2.2.2.2.2.2.2.2.2.2.1 bt356.2.2.2.2.2.2.2.2.2.2.2.2.2.2.2.2.2.2.2.2.2.2.2.2.2.1 bt356.2.2.2.2.2.2.2.2.2.2.2.2.2.2.2.2.2.2.2.2.2.2.2.2.2.2.1 bt356.2.2.2.2.2.2.2.2.2.2.2.2.2.2.2.2.2.2.2.2.2.2.2.2.2.2.2.1 bt356.2.2.2.2.2.2.2.2.2.2.2.2.2.2.2.2.2.2.2.2.2.2.2.2.2.2.2.2))))))) = some r := H
    have A5 := Aside0.mk A50
    clear A50
    by_cases c6 : t322 < 0
    · rw [if_pos c6] at H
      have c6b0 : decide (t322 < 0) = true := decide_eq_true c6
      clear c6
      obtain rfl := Option.some.inj H
      go_enter Tryd.func4, Tryd.ntmps4
      go_wp2_with (first | ((with_reducible refine gate_dst (N := 2) rfl ?_); refine box_event ?hg (N := 2) ?hd (cs := #[.int .i8 a0_0, .int .i8 a0_1, .int .i8 a0_2, .int .i8 a0_3, .int .i8 a0_4, .int .i8 a0_5, .int .i8 a0_6, .int .i8 a0_7, .int .i8 a0_8, .int .i8 a0_9, .int .i8 a0_10, .int .i8 a0_11, .int .i8 a0_12, .int .i8 a0_13, .int .i8 a0_14, .int .i8 a0_15, .int .i8 a0_16, .int .i8 a0_17, .int .i8 a0_18, .int .i8 a0_19, .int .i8 a0_20, .int .i8 a0_21, .int .i8 a0_22, .int .i8 a0_23, .int .i8 a0_24, .int .i8 a0_25, .int .i8 a0_26, .int .i8 a0_27, .slice A0_28 l0_28.length c0_28]) (t := 26) ?hr ?_; (case hd => rfl); (case hg => rfl); (case hr => first | (go_simp; done) | (go_simp; rfl)); intro gb321 hg w7 hbox hb; have n0_ := Aside0.mk (below_step (by repeat (first | (with_reducible first | exact HB.out | apply below_alloc | apply pw_below_drewN | apply below_drew1) | exact HB.out)) hb); have n1_ := Aside0.mk (hbox); have n2_ := Aside0.mk ((by rw [hg]; exact (below_size (by repeat (first | (with_reducible first | exact HB.out | apply below_alloc | apply pw_below_drewN | apply below_drew1) | exact HB.out))) : w.heap.size ≤ gb321)); have n3_ := Aside0.mk ((by rw [hg]; exact (below_size (by repeat (first | (with_reducible first | exact HB.out | apply below_alloc | apply pw_below_drewN | apply below_drew1) | exact HB.out))) : w.heap.size ≤ gb321)); clear HB; have HB := n0_; have BK321 := n1_; have GW321 := n2_; have GE321 := n3_; clear n0_ n1_ n2_ n3_; clear hb hbox hg) | ((with_reducible refine gate_dst (N := 14) rfl ?_); refine wpList_load_mid rfl 26 (.tmp 2) rfl gb321 0 rfl [.int .i8 a0_0, .int .i8 a0_1, .int .i8 a0_2, .int .i8 a0_3, .int .i8 a0_4, .int .i8 a0_5, .int .i8 a0_6, .int .i8 a0_7, .int .i8 a0_8, .int .i8 a0_9, .int .i8 a0_10, .int .i8 a0_11, .int .i8 a0_12, .int .i8 a0_13, .int .i8 a0_14, .int .i8 a0_15, .int .i8 a0_16, .int .i8 a0_17, .int .i8 a0_18, .int .i8 a0_19, .int .i8 a0_20, .int .i8 a0_21, .int .i8 a0_22, .int .i8 a0_23, .int .i8 a0_24, .int .i8 a0_25, .int .i8 a0_26, .int .i8 a0_27, .slice A0_28 l0_28.length c0_28] _ (range_partx_ [] [.int .i8 a0_0, .int .i8 a0_1, .int .i8 a0_2, .int .i8 a0_3, .int .i8 a0_4, .int .i8 a0_5, .int .i8 a0_6, .int .i8 a0_7, .int .i8 a0_8, .int .i8 a0_9, .int .i8 a0_10, .int .i8 a0_11, .int .i8 a0_12, .int .i8 a0_13, .int .i8 a0_14, .int .i8 a0_15, .int .i8 a0_16, .int .i8 a0_17, .int .i8 a0_18, .int .i8 a0_19, .int .i8 a0_20, .int .i8 a0_21, .int .i8 a0_22, .int .i8 a0_23, .int .i8 a0_24, .int .i8 a0_25, .int .i8 a0_26, .int .i8 a0_27, .slice A0_28 l0_28.length c0_28] [] 0 rfl (by (with_reducible repeat (first | refine blk_drewN ?_ _ | refine blk_drew ?_ | refine blk_alloc ?_ _)); exact BK321.out)) Tryd.underlying26 rfl (by exact (show (Tryd.prog.info? 26).map (·.size) = some 29 by kernel_rfl)) ?_) | ((with_reducible refine gate_callee (f := 18) rfl ?_); refine goesL_ (some 16) rfl rfl Tryd.func18 (by kernel_rfl) rfl #[.agg #[.int .i8 a0_0, .int .i8 a0_1, .int .i8 a0_2, .int .i8 a0_3, .int .i8 a0_4, .int .i8 a0_5, .int .i8 a0_6, .int .i8 a0_7, .int .i8 a0_8, .int .i8 a0_9, .int .i8 a0_10, .int .i8 a0_11, .int .i8 a0_12, .int .i8 a0_13, .int .i8 a0_14, .int .i8 a0_15, .int .i8 a0_16, .int .i8 a0_17, .int .i8 a0_18, .int .i8 a0_19, .int .i8 a0_20, .int .i8 a0_21, .int .i8 a0_22, .int .i8 a0_23, .int .i8 a0_24, .int .i8 a0_25, .int .i8 a0_26, .int .i8 a0_27, .slice A0_28 l0_28.length c0_28], .int .i64 1048576] rfl (by (try simp only [List.map_toArray, List.map_cons, List.map_nil]); first | done | rfl | (simp only [List.length_drop, List.length_take]; rfl)) ?_; (with_reducible refine (laws_szFace.calls a0_0 a0_1 a0_2 a0_3 a0_4 a0_5 a0_6 a0_7 a0_8 a0_9 a0_10 a0_11 a0_12 a0_13 a0_14 a0_15 a0_16 a0_17 a0_18 a0_19 a0_20 a0_21 a0_22 a0_23 a0_24 a0_25 a0_26 a0_27 _ _ l0_28 1048576 t322 _ ?side1 ?side2 A5.out).mono ?_); (case side1 => repeat (first | exact (Kd.C_below HR0_28.out HB.out) | (with_reducible refine Kd.C_alloc ?_ _) | (with_reducible refine Kd.C_drewN ?_ _) | (with_reducible refine Kd.C_drew ?_))); (case side2 => exact HC0_28.out); rintro e w8 ⟨rfl, hb⟩; refine ⟨_, rfl, ?_⟩; have n0_ := Aside0.mk (blk_below (g := gb321) (o := .cells #[.int .i8 a0_0, .int .i8 a0_1, .int .i8 a0_2, .int .i8 a0_3, .int .i8 a0_4, .int .i8 a0_5, .int .i8 a0_6, .int .i8 a0_7, .int .i8 a0_8, .int .i8 a0_9, .int .i8 a0_10, .int .i8 a0_11, .int .i8 a0_12, .int .i8 a0_13, .int .i8 a0_14, .int .i8 a0_15, .int .i8 a0_16, .int .i8 a0_17, .int .i8 a0_18, .int .i8 a0_19, .int .i8 a0_20, .int .i8 a0_21, .int .i8 a0_22, .int .i8 a0_23, .int .i8 a0_24, .int .i8 a0_25, .int .i8 a0_26, .int .i8 a0_27, .slice A0_28 l0_28.length c0_28] 26 (0, 0)) (by (with_reducible repeat (first | refine blk_drewN ?_ _ | refine blk_drew ?_ | refine blk_alloc ?_ _)); exact BK321.out) hb); have n1_ := Aside0.mk (below_step (by repeat (first | (with_reducible first | exact HB.out | apply below_alloc | apply pw_below_drewN | apply below_drew1 | refine below_set ?_ GE321.out) | exact HB.out)) hb); clear BK321; clear HB; have BK321 := n0_; have HB := n1_; clear n0_ n1_; (try clear hb); (try clear hb2); (try clear hk); (try clear hi)))
      go_ret
      exact ⟨by first | rfl | (simp [errW_none, errW_some] <;> rfl) | (simp [*, errW_none, errW_some] <;> rfl), by repeat (first | (with_reducible first | exact HB.out | apply below_alloc | apply pw_below_drewN | apply below_drew1 | refine below_set ?_ GE321.out) | exact HB.out)⟩
    · rw [if_neg c6] at H
      have c6b0 : decide (t322 < 0) = false := decide_eq_false c6
      clear c6
      replace H := Option.bind_eq_some_iff.mp H
      obtain ⟨⟨t323, t324, t325, t326, t327, t328, t329, t330, t331, t332, t333, t334, t335, t336, t337, t338, t339, t340, t341, t342, t343, t344, t345, t346, t347, t348, t349, t350, t351⟩, A90, H⟩ := H
      replace H : ((spec_LineWide.f k t323 t324 t325 t326 t327 t328 t329 t330 t331 t332 t333 t334 t335 t336 t337 t338 t339 t340 t341 t342 t343 t344 t345 t346 t347 t348 t349 t350 t351 a1).bind fun bt354 => ((laws_toFace.f a0_0 a0_1 a0_2 a0_3 a0_4 a0_5 a0_6 a0_7 a0_8 a0_9 a0_10 a0_11 a0_12 a0_13 a0_14 a0_15 a0_16 a0_17 a0_18 a0_19 a0_20 a0_21 a0_22 a0_23 a0_24 a0_25 a0_26 a0_27 l0_28).bind fun bt356 => ((impl_LineWide.f k bt356.1 bt356.2.1 bt356.2.2.1 bt356.2.2.2.1 bt356.2.2.2.2.1 bt356.2.2.2.2.2.1 bt356.2.2.2.2.2.2.1 bt356.2.2.2.2.2.2.2.1 bt356.2.2.2.2.2.2.2.2.1 bt356.2.2.2.2.2.2.2.2.2.1 bt356.2.2.2.2.2.2.2.2.2.2.1 bt356.2.2.2.2.2.2.2.2.2.2.2.1 bt356.2.2.2.2.2.2.2.2.2.2.2.2.1 bt356.2.2.2.2.2.2.2.2.2.2.2.2.2.1 bt356.2.2.2.2.2.2.2.2.2.2.2.2.2.2.1 bt356.2.2.2.2.2.2.2.2.2.2.2.2.2.2.2.1 bt356.2.2.2.2.2.2.2.2.2.2.2.2.2.2.2.2.1 bt356.2.2.2.2.2.2.2.2.2.2.2.2.2.2.2.2.2.1 bt356.2.2.2.2.2.2.2.2.2.2.2.2.2.2.2.2.2.2.1 bt356.2.2.2.2.2.2.2.2.2.2.2.2.2.2.2.2.2.2.2.1 bt356.2.2.2.2.2.2.2.2.2.2.2.2.2.2.2.2.2.2.2.2.1 bt356.2.2.2.2.2.2.2.2.2.2.2.2.2.2.2.2.2.2.2.2.2.1 bt356.2.2.2.2.2.2.2.2.2.2.2.2.2.2.2.2.2.2.2.2.2.2.1 bt356.2.2.2.2.2.2.2.2.2.2.2.2.2.2.2.2.2.2.2.2.2.2.2.1 bt356.2.2.2.2.2.2.2.2.2.2.2.2.2.2.2.2.2.2.2.2.2.2.2.2.1 bt356.2.2.2.2.2.2.2.2.2.2.2.2.2.2.2.2.2.2.2.2.2.2.2.2.2.1 bt356.2.2.2.2.2.2.2.2.2.2.2.2.2.2.2.2.2.2.2.2.2.2.2.2.2.2.1 bt356.2.2.2.2.2.2.2.2.2.2.2.2.2.2.2.2.2.2.2.2.2.2.2.2.2.2.2.1 bt356.2.2.2.2.2.2.2.2.2.2.2.2.2.2.2.2.2.2.2.2.2.2.2.2.2.2.2.2 a1).bind fun bt388 => (if bt388.1 = bt354.1 then (laws_FnExactLineWide.j0 k (bt388.2 != bt354.2) a0_0 a0_1 a0_2 a0_3 a0_4 a0_5 a0_6 a0_7 a0_8 a0_9 a0_10 a0_11 a0_12 a0_13 a0_14 a0_15 a0_16 a0_17 a0_18 a0_19 a0_20 a0_21 a0_22 a0_23 a0_24 a0_25 a0_26 a0_27 l0_28 bt356.1 bt356.2.1 bt356.2.2.1 bt356.2.2.2.1 bt356.2.2.2.2.1 bt356.2.2.2.2.2.1 bt356.2.2.2.2.2.2.1 bt356.2.2.2.2.2.2.2.1 bt356.2.2.2.2.2.2.2.2.1 bt356.2.2.2.2.2.2.2.2.2.1 bt356.2.2.2.2.2.2.2.2.2.2.1 bt356.2.2.2.2.2.2.2.2.2.2.2.1 bt356.2.2.2.2.2.2.2.2.2.2.2.2.1 bt356.2.2.2.2.2.2.2.2.2.2.2.2.2.1 bt356.2.2.2.2.2.2.2.2.2.2.2.2.2.2.1 bt356.2.2.2.2.2.2.2.2.2.2.2.2.2.2.2.1 bt356.2.2.2.2.2.2.2.2.2.2.2.2.2.2.2.2.1 bt356.2.2.2.2.2.2.2.2.2.2.2.2.2.2.2.2.2.1 bt356.2.2.2.2.2.2.2.2.2.2.2.2.2.2.2.2.2.2.1 bt356.2.2.2.2.2.2.2.2.2.2.2.2.2.2.2.2.2.2.2.1 bt356.2.2.2.2.2.2.2.2.2.2.2.2.2.2.2.2.2.2.2.2.1 bt356.2.2.2.2.2.2.2.2.2.2.2.2.2.2.2.2.2.2.2.2.2.1 bt356.2.2.2.2.2.2.2.2.2.2.2.2.2.2.2.2.2.2.2.2.2.2.1 bt356.2.2.2.2.2.2.2.2.2.2.2.2.2.2.2.2.2.2.2.2.2.2.2.1 bt356.2.2.2.2.2.2.2.2.2.2.2.2.2.2.2.2.2.2.2.2.2.2.2.2.1 bt356.2.2.2.2.2.2.2.2.2.2.2.2.2.2.2.2.2.2.2.2.2.2.2.2.2.1 bt356.2.2.2.2.2.2.2.2.2.2.2.2.2.2.2.2.2.2.2.2.2.2.2.2.2.2.1 bt356.2.2.2.2.2.2.2.2.2.2.2.2.2.2.2.2.2.2.2.2.2.2.2.2.2.2.2.1 bt356.2.2.2.2.2.2.2.2.2.2.2.2.2.2.2.2.2.2.2.2.2.2.2.2.2.2.2.2) else (laws_FnExactLineWide.j0 k true a0_0 a0_1 a0_2 a0_3 a0_4 a0_5 a0_6 a0_7 a0_8 a0_9 a0_10 a0_11 a0_12 a0_13 a0_14 a0_15 a0_16 a0_17 a0_18 a0_19 a0_20 a0_21 a0_22 a0_23 a0_24 a0_25 a0_26 a0_27 l0_28 bt356.1 bt356.2.1 bt356.2.2.1 bt356.2.2.2.1 bt356.2.2.2.2.1 bt356.2.2.2.2.2.1 bt356.2.2.2.2.2.2.1 bt356.2.2.2.2.2.2.2.1 bt356.2.2.2.2.2.2.2.2.1 bt356.2.2.2.2.2.2.2.2.2.1 bt356.2.2.2.2.2.2.2.2.2.2.1 bt356.2.2.2.2.2.2.2.2.2.2.2.1 bt356.2.2.2.2.2.2.2.2.2.2.2.2.1 bt356.2.2.2.2.2.2.2.2.2.2.2.2.2.1 bt356.2.2.2.2.2.2.2.2.2.2.2.2.2.2.1 bt356.2.2.2.2.2.2.2.2.2.2.2.2.2.2.2.1 bt356.2.2.2.2.2.2.2.2.2.2.2.2.2.2.2.2.1 bt356.2.2.2.2.2.2.2.2.2.2.2.2.2.2.2.2.2.1 bt356.2.2.2.2.2.2.2.2.2.2.2.2.2.2.2.2.2.2.1 bt356.2.2.2.2.2.2.2.2.2.2.2.2.2.2.2.2.2.2.2.1 bt356.2.2.2.2.2.2.2.2.2.2.2.2.2.2.2.2.2.2.2.2.1 bt356.2.2.2.2.2.2.2.2.2.2.2.2.2.2.2.2.2.2.2.2.2.1 bt356.2.2.2.2.2.2.2.2.2.2.2.2.2.2.2.2.2.2.2.2.2.2.1 bt356.2.2.2.2.2.2.2.2.2.2.2.2.2.2.2.2.2.2.2.2.2.2.2.1 bt356.2.2.2.2.2.2.2.2.2.2.2.2.2.2.2.2.2.2.2.2.2.2.2.2.1 bt356.2.2.2.2.2.2.2.2.2.2.2.2.2.2.2.2.2.2.2.2.2.2.2.2.2.1 bt356.2.2.2.2.2.2.2.2.2.2.2.2.2.2.2.2.2.2.2.2.2.2.2.2.2.2.1 bt356.2.2.2.2.2.2.2.2.2.2.2.2.2.2.2.2.2.2.2.2.2.2.2.2.2.2.2.1 bt356.2.2.2.2.2.2.2.2.2.2.2.2.2.2.2.2.2.2.2.2.2.2.2.2.2.2.2.2))))) = some r := H
      have A9 := Aside0.mk A90
      clear A90
      replace H := Option.bind_eq_some_iff.mp H
      obtain ⟨⟨t354, t355⟩, A100, H⟩ := H
      replace H : ((laws_toFace.f a0_0 a0_1 a0_2 a0_3 a0_4 a0_5 a0_6 a0_7 a0_8 a0_9 a0_10 a0_11 a0_12 a0_13 a0_14 a0_15 a0_16 a0_17 a0_18 a0_19 a0_20 a0_21 a0_22 a0_23 a0_24 a0_25 a0_26 a0_27 l0_28).bind fun bt356 => ((impl_LineWide.f k bt356.1 bt356.2.1 bt356.2.2.1 bt356.2.2.2.1 bt356.2.2.2.2.1 bt356.2.2.2.2.2.1 bt356.2.2.2.2.2.2.1 bt356.2.2.2.2.2.2.2.1 bt356.2.2.2.2.2.2.2.2.1 bt356.2.2.2.2.2.2.2.2.2.1 bt356.2.2.2.2.2.2.2.2.2.2.1 bt356.2.2.2.2.2.2.2.2.2.2.2.1 bt356.2.2.2.2.2.2.2.2.2.2.2.2.1 bt356.2.2.2.2.2.2.2.2.2.2.2.2.2.1 bt356.2.2.2.2.2.2.2.2.2.2.2.2.2.2.1 bt356.2.2.2.2.2.2.2.2.2.2.2.2.2.2.2.1 bt356.2.2.2.2.2.2.2.2.2.2.2.2.2.2.2.2.1 bt356.2.2.2.2.2.2.2.2.2.2.2.2.2.2.2.2.2.1 bt356.2.2.2.2.2.2.2.2.2.2.2.2.2.2.2.2.2.2.1 bt356.2.2.2.2.2.2.2.2.2.2.2.2.2.2.2.2.2.2.2.1 bt356.2.2.2.2.2.2.2.2.2.2.2.2.2.2.2.2.2.2.2.2.1 bt356.2.2.2.2.2.2.2.2.2.2.2.2.2.2.2.2.2.2.2.2.2.1 bt356.2.2.2.2.2.2.2.2.2.2.2.2.2.2.2.2.2.2.2.2.2.2.1 bt356.2.2.2.2.2.2.2.2.2.2.2.2.2.2.2.2.2.2.2.2.2.2.2.1 bt356.2.2.2.2.2.2.2.2.2.2.2.2.2.2.2.2.2.2.2.2.2.2.2.2.1 bt356.2.2.2.2.2.2.2.2.2.2.2.2.2.2.2.2.2.2.2.2.2.2.2.2.2.1 bt356.2.2.2.2.2.2.2.2.2.2.2.2.2.2.2.2.2.2.2.2.2.2.2.2.2.2.1 bt356.2.2.2.2.2.2.2.2.2.2.2.2.2.2.2.2.2.2.2.2.2.2.2.2.2.2.2.1 bt356.2.2.2.2.2.2.2.2.2.2.2.2.2.2.2.2.2.2.2.2.2.2.2.2.2.2.2.2 a1).bind fun bt388 => (if bt388.1 = t354 then (laws_FnExactLineWide.j0 k (bt388.2 != t355) a0_0 a0_1 a0_2 a0_3 a0_4 a0_5 a0_6 a0_7 a0_8 a0_9 a0_10 a0_11 a0_12 a0_13 a0_14 a0_15 a0_16 a0_17 a0_18 a0_19 a0_20 a0_21 a0_22 a0_23 a0_24 a0_25 a0_26 a0_27 l0_28 bt356.1 bt356.2.1 bt356.2.2.1 bt356.2.2.2.1 bt356.2.2.2.2.1 bt356.2.2.2.2.2.1 bt356.2.2.2.2.2.2.1 bt356.2.2.2.2.2.2.2.1 bt356.2.2.2.2.2.2.2.2.1 bt356.2.2.2.2.2.2.2.2.2.1 bt356.2.2.2.2.2.2.2.2.2.2.1 bt356.2.2.2.2.2.2.2.2.2.2.2.1 bt356.2.2.2.2.2.2.2.2.2.2.2.2.1 bt356.2.2.2.2.2.2.2.2.2.2.2.2.2.1 bt356.2.2.2.2.2.2.2.2.2.2.2.2.2.2.1 bt356.2.2.2.2.2.2.2.2.2.2.2.2.2.2.2.1 bt356.2.2.2.2.2.2.2.2.2.2.2.2.2.2.2.2.1 bt356.2.2.2.2.2.2.2.2.2.2.2.2.2.2.2.2.2.1 bt356.2.2.2.2.2.2.2.2.2.2.2.2.2.2.2.2.2.2.1 bt356.2.2.2.2.2.2.2.2.2.2.2.2.2.2.2.2.2.2.2.1 bt356.2.2.2.2.2.2.2.2.2.2.2.2.2.2.2.2.2.2.2.2.1 bt356.2.2.2.2.2.2.2.2.2.2.2.2.2.2.2.2.2.2.2.2.2.1 bt356.2.2.2.2.2.2.2.2.2.2.2.2.2.2.2.2.2.2.2.2.2.2.1 bt356.2.2.2.2.2.2.2.2.2.2.2.2.2.2.2.2.2.2.2.2.2.2.2.1 bt356.2.2.2.2.2.2.2.2.2.2.2.2.2.2.2.2.2.2.2.2.2.2.2.2.1 bt356.2.2.2.2.2.2.2.2.2.2.2.2.2.2.2.2.2.2.2.2.2.2.2.2.2.1 bt356.2.2.2.2.2.2.2.2.2.2.2.2.2.2.2.2.2.2.2.2.2.2.2.2.2.2.1 bt356.2.2.2.2.2.2.2.2.2.2.2.2.2.2.2.2.2.2.2.2.2.2.2.2.2.2.2.1 bt356.2.2.2.2.2.2.2.2.2.2.2.2.2.2.2.2.2.2.2.2.2.2.2.2.2.2.2.2) else (laws_FnExactLineWide.j0 k true a0_0 a0_1 a0_2 a0_3 a0_4 a0_5 a0_6 a0_7 a0_8 a0_9 a0_10 a0_11 a0_12 a0_13 a0_14 a0_15 a0_16 a0_17 a0_18 a0_19 a0_20 a0_21 a0_22 a0_23 a0_24 a0_25 a0_26 a0_27 l0_28 bt356.1 bt356.2.1 bt356.2.2.1 bt356.2.2.2.1 bt356.2.2.2.2.1 bt356.2.2.2.2.2.1 bt356.2.2.2.2.2.2.1 bt356.2.2.2.2.2.2.2.1 bt356.2.2.2.2.2.2.2.2.1 bt356.2.2.2.2.2.2.2.2.2.1 bt356.2.2.2.2.2.2.2.2.2.2.1 bt356.2.2.2.2.2.2.2.2.2.2.2.1 bt356.2.2.2.2.2.2.2.2.2.2.2.2.1 bt356.2.2.2.2.2.2.2.2.2.2.2.2.2.1 bt356.2.2.2.2.2.2.2.2.2.2.2.2.2.2.1 bt356.2.2.2.2.2.2.2.2.2.2.2.2.2.2.2.1 bt356.2.2.2.2.2.2.2.2.2.2.2.2.2.2.2.2.1 bt356.2.2.2.2.2.2.2.2.2.2.2.2.2.2.2.2.2.1 bt356.2.2.2.2.2.2.2.2.2.2.2.2.2.2.2.2.2.2.1 bt356.2.2.2.2.2.2.2.2.2.2.2.2.2.2.2.2.2.2.2.1 bt356.2.2.2.2.2.2.2.2.2.2.2.2.2.2.2.2.2.2.2.2.1 bt356.2.2.2.2.2.2.2.2.2.2.2.2.2.2.2.2.2.2.2.2.2.1 bt356.2.2.2.2.2.2.2.2.2.2.2.2.2.2.2.2.2.2.2.2.2.2.1 bt356.2.2.2.2.2.2.2.2.2.2.2.2.2.2.2.2.2.2.2.2.2.2.2.1 bt356.2.2.2.2.2.2.2.2.2.2.2.2.2.2.2.2.2.2.2.2.2.2.2.2.1 bt356.2.2.2.2.2.2.2.2.2.2.2.2.2.2.2.2.2.2.2.2.2.2.2.2.2.1 bt356.2.2.2.2.2.2.2.2.2.2.2.2.2.2.2.2.2.2.2.2.2.2.2.2.2.2.1 bt356.2.2.2.2.2.2.2.2.2.2.2.2.2.2.2.2.2.2.2.2.2.2.2.2.2.2.2.1 bt356.2.2.2.2.2.2.2.2.2.2.2.2.2.2.2.2.2.2.2.2.2.2.2.2.2.2.2.2)))) = some r := H
      have A10 := Aside0.mk A100
      clear A100
      replace H := Option.bind_eq_some_iff.mp H
      obtain ⟨⟨t356, t357, t358, t359, t360, t361, t362, t363, t364, t365, t366, t367, t368, t369, t370, t371, t372, t373, t374, t375, t376, t377, t378, t379, t380, t381, t382, t383, t384⟩, A110, H⟩ := H
      replace H : ((impl_LineWide.f k t356 t357 t358 t359 t360 t361 t362 t363 t364 t365 t366 t367 t368 t369 t370 t371 t372 t373 t374 t375 t376 t377 t378 t379 t380 t381 t382 t383 t384 a1).bind fun bt388 => (if bt388.1 = t354 then (laws_FnExactLineWide.j0 k (bt388.2 != t355) a0_0 a0_1 a0_2 a0_3 a0_4 a0_5 a0_6 a0_7 a0_8 a0_9 a0_10 a0_11 a0_12 a0_13 a0_14 a0_15 a0_16 a0_17 a0_18 a0_19 a0_20 a0_21 a0_22 a0_23 a0_24 a0_25 a0_26 a0_27 l0_28 t356 t357 t358 t359 t360 t361 t362 t363 t364 t365 t366 t367 t368 t369 t370 t371 t372 t373 t374 t375 t376 t377 t378 t379 t380 t381 t382 t383 t384) else (laws_FnExactLineWide.j0 k true a0_0 a0_1 a0_2 a0_3 a0_4 a0_5 a0_6 a0_7 a0_8 a0_9 a0_10 a0_11 a0_12 a0_13 a0_14 a0_15 a0_16 a0_17 a0_18 a0_19 a0_20 a0_21 a0_22 a0_23 a0_24 a0_25 a0_26 a0_27 l0_28 t356 t357 t358 t359 t360 t361 t362 t363 t364 t365 t366 t367 t368 t369 t370 t371 t372 t373 t374 t375 t376 t377 t378 t379 t380 t381 t382 t383 t384))) = some r := H
      have A11 := Aside0.mk A110
      clear A110
      replace H := Option.bind_eq_some_iff.mp H
      obtain ⟨⟨t388, t389⟩, A120, H⟩ := H
      replace H : (if t388 = t354 then (laws_FnExactLineWide.j0 k (t389 != t355) a0_0 a0_1 a0_2 a0_3 a0_4 a0_5 a0_6 a0_7 a0_8 a0_9 a0_10 a0_11 a0_12 a0_13 a0_14 a0_15 a0_16 a0_17 a0_18 a0_19 a0_20 a0_21 a0_22 a0_23 a0_24 a0_25 a0_26 a0_27 l0_28 t356 t357 t358 t359 t360 t361 t362 t363 t364 t365 t366 t367 t368 t369 t370 t371 t372 t373 t374 t375 t376 t377 t378 t379 t380 t381 t382 t383 t384) else (laws_FnExactLineWide.j0 k true a0_0 a0_1 a0_2 a0_3 a0_4 a0_5 a0_6 a0_7 a0_8 a0_9 a0_10 a0_11 a0_12 a0_13 a0_14 a0_15 a0_16 a0_17 a0_18 a0_19 a0_20 a0_21 a0_22 a0_23 a0_24 a0_25 a0_26 a0_27 l0_28 t356 t357 t358 t359 t360 t361 t362 t363 t364 t365 t366 t367 t368 t369 t370 t371 t372 t373 t374 t375 t376 t377 t378 t379 t380 t381 t382 t383 t384)) = some r := H
      have A12 := Aside0.mk A120
      clear A120
      have HC13 := Aside0.mk H
      clear H
      go_enter Tryd.func4, Tryd.ntmps4
      go_upto_region 10 with (first | ((with_reducible refine gate_dst (N := 2) rfl ?_); refine box_event ?hg (N := 2) ?hd (cs := #[.int .i8 a0_0, .int .i8 a0_1, .int .i8 a0_2, .int .i8 a0_3, .int .i8 a0_4, .int .i8 a0_5, .int .i8 a0_6, .int .i8 a0_7, .int .i8 a0_8, .int .i8 a0_9, .int .i8 a0_10, .int .i8 a0_11, .int .i8 a0_12, .int .i8 a0_13, .int .i8 a0_14, .int .i8 a0_15, .int .i8 a0_16, .int .i8 a0_17, .int .i8 a0_18, .int .i8 a0_19, .int .i8 a0_20, .int .i8 a0_21, .int .i8 a0_22, .int .i8 a0_23, .int .i8 a0_24, .int .i8 a0_25, .int .i8 a0_26, .int .i8 a0_27, .slice A0_28 l0_28.length c0_28]) (t := 26) ?hr ?_; (case hd => rfl); (case hg => rfl); (case hr => first | (go_simp; done) | (go_simp; rfl)); intro gb321 hg w14 hbox hb; have n0_ := Aside0.mk (below_step (by repeat (first | (with_reducible first | exact HB.out | apply below_alloc | apply pw_below_drewN | apply below_drew1) | exact HB.out)) hb); have n1_ := Aside0.mk (hbox); have n2_ := Aside0.mk ((by rw [hg]; exact (below_size (by repeat (first | (with_reducible first | exact HB.out | apply below_alloc | apply pw_below_drewN | apply below_drew1) | exact HB.out))) : w.heap.size ≤ gb321)); have n3_ := Aside0.mk ((by rw [hg]; exact (below_size (by repeat (first | (with_reducible first | exact HB.out | apply below_alloc | apply pw_below_drewN | apply below_drew1) | exact HB.out))) : w.heap.size ≤ gb321)); clear HB; have HB := n0_; have BK321 := n1_; have GW321 := n2_; have GE321 := n3_; clear n0_ n1_ n2_ n3_; clear hb hbox hg) | ((with_reducible refine gate_dst (N := 14) rfl ?_); refine wpList_load_mid rfl 26 (.tmp 2) rfl gb321 0 rfl [.int .i8 a0_0, .int .i8 a0_1, .int .i8 a0_2, .int .i8 a0_3, .int .i8 a0_4, .int .i8 a0_5, .int .i8 a0_6, .int .i8 a0_7, .int .i8 a0_8, .int .i8 a0_9, .int .i8 a0_10, .int .i8 a0_11, .int .i8 a0_12, .int .i8 a0_13, .int .i8 a0_14, .int .i8 a0_15, .int .i8 a0_16, .int .i8 a0_17, .int .i8 a0_18, .int .i8 a0_19, .int .i8 a0_20, .int .i8 a0_21, .int .i8 a0_22, .int .i8 a0_23, .int .i8 a0_24, .int .i8 a0_25, .int .i8 a0_26, .int .i8 a0_27, .slice A0_28 l0_28.length c0_28] _ (range_partx_ [] [.int .i8 a0_0, .int .i8 a0_1, .int .i8 a0_2, .int .i8 a0_3, .int .i8 a0_4, .int .i8 a0_5, .int .i8 a0_6, .int .i8 a0_7, .int .i8 a0_8, .int .i8 a0_9, .int .i8 a0_10, .int .i8 a0_11, .int .i8 a0_12, .int .i8 a0_13, .int .i8 a0_14, .int .i8 a0_15, .int .i8 a0_16, .int .i8 a0_17, .int .i8 a0_18, .int .i8 a0_19, .int .i8 a0_20, .int .i8 a0_21, .int .i8 a0_22, .int .i8 a0_23, .int .i8 a0_24, .int .i8 a0_25, .int .i8 a0_26, .int .i8 a0_27, .slice A0_28 l0_28.length c0_28] [] 0 rfl (by (with_reducible repeat (first | refine blk_drewN ?_ _ | refine blk_drew ?_ | refine blk_alloc ?_ _)); exact BK321.out)) Tryd.underlying26 rfl (by exact (show (Tryd.prog.info? 26).map (·.size) = some 29 by kernel_rfl)) ?_) | ((with_reducible refine gate_callee (f := 18) rfl ?_); refine goesL_ (some 16) rfl rfl Tryd.func18 (by kernel_rfl) rfl #[.agg #[.int .i8 a0_0, .int .i8 a0_1, .int .i8 a0_2, .int .i8 a0_3, .int .i8 a0_4, .int .i8 a0_5, .int .i8 a0_6, .int .i8 a0_7, .int .i8 a0_8, .int .i8 a0_9, .int .i8 a0_10, .int .i8 a0_11, .int .i8 a0_12, .int .i8 a0_13, .int .i8 a0_14, .int .i8 a0_15, .int .i8 a0_16, .int .i8 a0_17, .int .i8 a0_18, .int .i8 a0_19, .int .i8 a0_20, .int .i8 a0_21, .int .i8 a0_22, .int .i8 a0_23, .int .i8 a0_24, .int .i8 a0_25, .int .i8 a0_26, .int .i8 a0_27, .slice A0_28 l0_28.length c0_28], .int .i64 1048576] rfl (by (try simp only [List.map_toArray, List.map_cons, List.map_nil]); first | done | rfl | (simp only [List.length_drop, List.length_take]; rfl)) ?_; (with_reducible refine (laws_szFace.calls a0_0 a0_1 a0_2 a0_3 a0_4 a0_5 a0_6 a0_7 a0_8 a0_9 a0_10 a0_11 a0_12 a0_13 a0_14 a0_15 a0_16 a0_17 a0_18 a0_19 a0_20 a0_21 a0_22 a0_23 a0_24 a0_25 a0_26 a0_27 _ _ l0_28 1048576 t322 _ ?side1 ?side2 A5.out).mono ?_); (case side1 => repeat (first | exact (Kd.C_below HR0_28.out HB.out) | (with_reducible refine Kd.C_alloc ?_ _) | (with_reducible refine Kd.C_drewN ?_ _) | (with_reducible refine Kd.C_drew ?_))); (case side2 => exact HC0_28.out); rintro e w15 ⟨rfl, hb⟩; refine ⟨_, rfl, ?_⟩; have n0_ := Aside0.mk (blk_below (g := gb321) (o := .cells #[.int .i8 a0_0, .int .i8 a0_1, .int .i8 a0_2, .int .i8 a0_3, .int .i8 a0_4, .int .i8 a0_5, .int .i8 a0_6, .int .i8 a0_7, .int .i8 a0_8, .int .i8 a0_9, .int .i8 a0_10, .int .i8 a0_11, .int .i8 a0_12, .int .i8 a0_13, .int .i8 a0_14, .int .i8 a0_15, .int .i8 a0_16, .int .i8 a0_17, .int .i8 a0_18, .int .i8 a0_19, .int .i8 a0_20, .int .i8 a0_21, .int .i8 a0_22, .int .i8 a0_23, .int .i8 a0_24, .int .i8 a0_25, .int .i8 a0_26, .int .i8 a0_27, .slice A0_28 l0_28.length c0_28] 26 (0, 0)) (by (with_reducible repeat (first | refine blk_drewN ?_ _ | refine blk_drew ?_ | refine blk_alloc ?_ _)); exact BK321.out) hb); have n1_ := Aside0.mk (below_step (by repeat (first | (with_reducible first | exact HB.out | apply below_alloc | apply pw_below_drewN | apply below_drew1 | refine below_set ?_ GE321.out) | exact HB.out)) hb); clear BK321; clear HB; have BK321 := n0_; have HB := n1_; clear n0_ n1_; (try clear hb); (try clear hb2); (try clear hk); (try clear hi)) | ((with_reducible refine gate_dst (N := 20) rfl ?_); refine wpList_load_mid rfl 26 (.tmp 2) rfl gb321 0 rfl [.int .i8 a0_0, .int .i8 a0_1, .int .i8 a0_2, .int .i8 a0_3, .int .i8 a0_4, .int .i8 a0_5, .int .i8 a0_6, .int .i8 a0_7, .int .i8 a0_8, .int .i8 a0_9, .int .i8 a0_10, .int .i8 a0_11, .int .i8 a0_12, .int .i8 a0_13, .int .i8 a0_14, .int .i8 a0_15, .int .i8 a0_16, .int .i8 a0_17, .int .i8 a0_18, .int .i8 a0_19, .int .i8 a0_20, .int .i8 a0_21, .int .i8 a0_22, .int .i8 a0_23, .int .i8 a0_24, .int .i8 a0_25, .int .i8 a0_26, .int .i8 a0_27, .slice A0_28 l0_28.length c0_28] _ (range_partx_ [] [.int .i8 a0_0, .int .i8 a0_1, .int .i8 a0_2, .int .i8 a0_3, .int .i8 a0_4, .int .i8 a0_5, .int .i8 a0_6, .int .i8 a0_7, .int .i8 a0_8, .int .i8 a0_9, .int .i8 a0_10, .int .i8 a0_11, .int .i8 a0_12, .int .i8 a0_13, .int .i8 a0_14, .int .i8 a0_15, .int .i8 a0_16, .int .i8 a0_17, .int .i8 a0_18, .int .i8 a0_19, .int .i8 a0_20, .int .i8 a0_21, .int .i8 a0_22, .int .i8 a0_23, .int .i8 a0_24, .int .i8 a0_25, .int .i8 a0_26, .int .i8 a0_27, .slice A0_28 l0_28.length c0_28] [] 0 rfl (by (with_reducible repeat (first | refine blk_drewN ?_ _ | refine blk_drew ?_ | refine blk_alloc ?_ _)); exact BK321.out)) Tryd.underlying26 rfl (by exact (show (Tryd.prog.info? 26).map (·.size) = some 29 by kernel_rfl)) ?_) | ((with_reducible refine gate_callee (f := 20) rfl ?_); refine goesL_ (some 21) rfl rfl Tryd.func20 (by kernel_rfl) rfl #[.agg #[.int .i8 a0_0, .int .i8 a0_1, .int .i8 a0_2, .int .i8 a0_3, .int .i8 a0_4, .int .i8 a0_5, .int .i8 a0_6, .int .i8 a0_7, .int .i8 a0_8, .int .i8 a0_9, .int .i8 a0_10, .int .i8 a0_11, .int .i8 a0_12, .int .i8 a0_13, .int .i8 a0_14, .int .i8 a0_15, .int .i8 a0_16, .int .i8 a0_17, .int .i8 a0_18, .int .i8 a0_19, .int .i8 a0_20, .int .i8 a0_21, .int .i8 a0_22, .int .i8 a0_23, .int .i8 a0_24, .int .i8 a0_25, .int .i8 a0_26, .int .i8 a0_27, .slice A0_28 l0_28.length c0_28]] rfl (by (try simp only [List.map_toArray, List.map_cons, List.map_nil]); first | done | rfl | (simp only [List.length_drop, List.length_take]; rfl)) ?_; (with_reducible refine (laws_toFace.calls a0_0 a0_1 a0_2 a0_3 a0_4 a0_5 a0_6 a0_7 a0_8 a0_9 a0_10 a0_11 a0_12 a0_13 a0_14 a0_15 a0_16 a0_17 a0_18 a0_19 a0_20 a0_21 a0_22 a0_23 a0_24 a0_25 a0_26 a0_27 _ _ l0_28 t323 t324 t325 t326 t327 t328 t329 t330 t331 t332 t333 t334 t335 t336 t337 t338 t339 t340 t341 t342 t343 t344 t345 t346 t347 t348 t349 t350 t351 _ ?side1 ?side2 A9.out).mono ?_); (case side1 => repeat (first | exact (Kd.C_below HR0_28.out HB.out) | (with_reducible refine Kd.C_alloc ?_ _) | (with_reducible refine Kd.C_drewN ?_ _) | (with_reducible refine Kd.C_drew ?_))); (case side2 => exact HC0_28.out); rintro e w16 ⟨v352, rfl, ho0, hb⟩; refine ⟨_, rfl, ?_⟩; have n0_ := Aside0.mk (Kd.R_lower ho0 (below_size (by repeat (first | (with_reducible first | exact HB.out | apply below_alloc | apply pw_below_drewN | apply below_drew1 | refine below_set ?_ GE321.out) | exact HB.out)))); have n1_ := Aside0.mk (blk_below (g := gb321) (o := .cells #[.int .i8 a0_0, .int .i8 a0_1, .int .i8 a0_2, .int .i8 a0_3, .int .i8 a0_4, .int .i8 a0_5, .int .i8 a0_6, .int .i8 a0_7, .int .i8 a0_8, .int .i8 a0_9, .int .i8 a0_10, .int .i8 a0_11, .int .i8 a0_12, .int .i8 a0_13, .int .i8 a0_14, .int .i8 a0_15, .int .i8 a0_16, .int .i8 a0_17, .int .i8 a0_18, .int .i8 a0_19, .int .i8 a0_20, .int .i8 a0_21, .int .i8 a0_22, .int .i8 a0_23, .int .i8 a0_24, .int .i8 a0_25, .int .i8 a0_26, .int .i8 a0_27, .slice A0_28 l0_28.length c0_28] 26 (0, 0)) (by (with_reducible repeat (first | refine blk_drewN ?_ _ | refine blk_drew ?_ | refine blk_alloc ?_ _)); exact BK321.out) hb); have n2_ := Aside0.mk (below_step (by repeat (first | (with_reducible first | exact HB.out | apply below_alloc | apply pw_below_drewN | apply below_drew1 | refine below_set ?_ GE321.out) | exact HB.out)) hb); clear BK321; clear HB; have HO353 := n0_; have BK321 := n1_; have HB := n2_; clear n0_ n1_ n2_; (try clear hb); (try clear hb2); (try clear hk); (try clear hi); (try clear ho0); obtain ⟨Ao17, co17, eo17⟩ := Kd.R_slice HO353.out; subst eo17) | ((with_reducible refine gate_callee (f := 23) rfl ?_); refine goesL_ (some 23) rfl rfl Tryd.func23 (by kernel_rfl) rfl #[.agg #[.int .i8 t323, .int .i8 t324, .int .i8 t325, .int .i8 t326, .int .i8 t327, .int .i8 t328, .int .i8 t329, .int .i8 t330, .int .i8 t331, .int .i8 t332, .int .i8 t333, .int .i8 t334, .int .i8 t335, .int .i8 t336, .int .i8 t337, .int .i8 t338, .int .i8 t339, .int .i8 t340, .int .i8 t341, .int .i8 t342, .int .i8 t343, .int .i8 t344, .int .i8 t345, .int .i8 t346, .int .i8 t347, .int .i8 t348, .int .i8 t349, .int .i8 t350, .slice Ao17 t351.length co17], .string a1] rfl (by (try simp only [List.map_toArray, List.map_cons, List.map_nil]); first | done | rfl | (simp only [List.length_drop, List.length_take]; rfl)) ?_; (with_reducible refine (spec_LineWide.calls k t323 t324 t325 t326 t327 t328 t329 t330 t331 t332 t333 t334 t335 t336 t337 t338 t339 t340 t341 t342 t343 t344 t345 t346 t347 t348 t349 t350 _ _ t351 a1 t354 t355 _ ?side1 ?side2 A10.out).mono ?_); (case side1 => repeat (first | exact (Kd.R_reads' HO353.out).2.2 | (with_reducible refine Kd.C_alloc ?_ _) | (with_reducible refine Kd.C_drewN ?_ _) | (with_reducible refine Kd.C_drew ?_))); (case side2 => exact (Kd.R_reads' HO353.out).2.1); rintro e w18 ⟨rfl, hb⟩; refine ⟨_, rfl, ?_⟩; have n0_ := Aside0.mk (Kd.R_below (by (with_reducible repeat (first | apply Kd.R_alloc | apply Kd.R_drewN | apply Kd.R_drew)); exact HO353.out) hb); have n1_ := Aside0.mk (blk_below (g := gb321) (o := .cells #[.int .i8 a0_0, .int .i8 a0_1, .int .i8 a0_2, .int .i8 a0_3, .int .i8 a0_4, .int .i8 a0_5, .int .i8 a0_6, .int .i8 a0_7, .int .i8 a0_8, .int .i8 a0_9, .int .i8 a0_10, .int .i8 a0_11, .int .i8 a0_12, .int .i8 a0_13, .int .i8 a0_14, .int .i8 a0_15, .int .i8 a0_16, .int .i8 a0_17, .int .i8 a0_18, .int .i8 a0_19, .int .i8 a0_20, .int .i8 a0_21, .int .i8 a0_22, .int .i8 a0_23, .int .i8 a0_24, .int .i8 a0_25, .int .i8 a0_26, .int .i8 a0_27, .slice A0_28 l0_28.length c0_28] 26 (0, 0)) (by (with_reducible repeat (first | refine blk_drewN ?_ _ | refine blk_drew ?_ | refine blk_alloc ?_ _)); exact BK321.out) hb); have n2_ := Aside0.mk (below_step (by repeat (first | (with_reducible first | exact HB.out | apply below_alloc | apply pw_below_drewN | apply below_drew1 | refine below_set ?_ GE321.out) | exact HB.out)) hb); clear HO353; clear BK321; clear HB; have HO353 := n0_; have BK321 := n1_; have HB := n2_; clear n0_ n1_ n2_; (try clear hb); (try clear hb2); (try clear hk); (try clear hi)) | ((with_reducible refine gate_dst (N := 26) rfl ?_); refine wpList_load_mid rfl 26 (.tmp 2) rfl gb321 0 rfl [.int .i8 a0_0, .int .i8 a0_1, .int .i8 a0_2, .int .i8 a0_3, .int .i8 a0_4, .int .i8 a0_5, .int .i8 a0_6, .int .i8 a0_7, .int .i8 a0_8, .int .i8 a0_9, .int .i8 a0_10, .int .i8 a0_11, .int .i8 a0_12, .int .i8 a0_13, .int .i8 a0_14, .int .i8 a0_15, .int .i8 a0_16, .int .i8 a0_17, .int .i8 a0_18, .int .i8 a0_19, .int .i8 a0_20, .int .i8 a0_21, .int .i8 a0_22, .int .i8 a0_23, .int .i8 a0_24, .int .i8 a0_25, .int .i8 a0_26, .int .i8 a0_27, .slice A0_28 l0_28.length c0_28] _ (range_partx_ [] [.int .i8 a0_0, .int .i8 a0_1, .int .i8 a0_2, .int .i8 a0_3, .int .i8 a0_4, .int .i8 a0_5, .int .i8 a0_6, .int .i8 a0_7, .int .i8 a0_8, .int .i8 a0_9, .int .i8 a0_10, .int .i8 a0_11, .int .i8 a0_12, .int .i8 a0_13, .int .i8 a0_14, .int .i8 a0_15, .int .i8 a0_16, .int .i8 a0_17, .int .i8 a0_18, .int .i8 a0_19, .int .i8 a0_20, .int .i8 a0_21, .int .i8 a0_22, .int .i8 a0_23, .int .i8 a0_24, .int .i8 a0_25, .int .i8 a0_26, .int .i8 a0_27, .slice A0_28 l0_28.length c0_28] [] 0 rfl (by (with_reducible repeat (first | refine blk_drewN ?_ _ | refine blk_drew ?_ | refine blk_alloc ?_ _)); exact BK321.out)) Tryd.underlying26 rfl (by exact (show (Tryd.prog.info? 26).map (·.size) = some 29 by kernel_rfl)) ?_) | ((with_reducible refine gate_callee (f := 20) rfl ?_); refine goesL_ (some 27) rfl rfl Tryd.func20 (by kernel_rfl) rfl #[.agg #[.int .i8 a0_0, .int .i8 a0_1, .int .i8 a0_2, .int .i8 a0_3, .int .i8 a0_4, .int .i8 a0_5, .int .i8 a0_6, .int .i8 a0_7, .int .i8 a0_8, .int .i8 a0_9, .int .i8 a0_10, .int .i8 a0_11, .int .i8 a0_12, .int .i8 a0_13, .int .i8 a0_14, .int .i8 a0_15, .int .i8 a0_16, .int .i8 a0_17, .int .i8 a0_18, .int .i8 a0_19, .int .i8 a0_20, .int .i8 a0_21, .int .i8 a0_22, .int .i8 a0_23, .int .i8 a0_24, .int .i8 a0_25, .int .i8 a0_26, .int .i8 a0_27, .slice A0_28 l0_28.length c0_28]] rfl (by (try simp only [List.map_toArray, List.map_cons, List.map_nil]); first | done | rfl | (simp only [List.length_drop, List.length_take]; rfl)) ?_; (with_reducible refine (laws_toFace.calls a0_0 a0_1 a0_2 a0_3 a0_4 a0_5 a0_6 a0_7 a0_8 a0_9 a0_10 a0_11 a0_12 a0_13 a0_14 a0_15 a0_16 a0_17 a0_18 a0_19 a0_20 a0_21 a0_22 a0_23 a0_24 a0_25 a0_26 a0_27 _ _ l0_28 t356 t357 t358 t359 t360 t361 t362 t363 t364 t365 t366 t367 t368 t369 t370 t371 t372 t373 t374 t375 t376 t377 t378 t379 t380 t381 t382 t383 t384 _ ?side1 ?side2 A11.out).mono ?_); (case side1 => repeat (first | exact (Kd.C_below HR0_28.out HB.out) | (with_reducible refine Kd.C_alloc ?_ _) | (with_reducible refine Kd.C_drewN ?_ _) | (with_reducible refine Kd.C_drew ?_))); (case side2 => exact HC0_28.out); rintro e w19 ⟨v385, rfl, ho0, hb⟩; refine ⟨_, rfl, ?_⟩; have n0_ := Aside0.mk (Kd.R_elder' (by (with_reducible repeat (first | apply Kd.R_alloc | apply Kd.R_drewN | apply Kd.R_drew)); exact HO353.out) (Kd.R_base ho0) hb); have n1_ := Aside0.mk (Kd.R_lower (Kd.R_new' ho0 (Kd.R_lt (by (with_reducible repeat (first | apply Kd.R_alloc | apply Kd.R_drewN | apply Kd.R_drew)); exact HO353.out))) (below_size (by repeat (first | (with_reducible first | exact HB.out | apply below_alloc | apply pw_below_drewN | apply below_drew1 | refine below_set ?_ GE321.out) | exact HB.out)))); have n2_ := Aside0.mk (blk_below (g := gb321) (o := .cells #[.int .i8 a0_0, .int .i8 a0_1, .int .i8 a0_2, .int .i8 a0_3, .int .i8 a0_4, .int .i8 a0_5, .int .i8 a0_6, .int .i8 a0_7, .int .i8 a0_8, .int .i8 a0_9, .int .i8 a0_10, .int .i8 a0_11, .int .i8 a0_12, .int .i8 a0_13, .int .i8 a0_14, .int .i8 a0_15, .int .i8 a0_16, .int .i8 a0_17, .int .i8 a0_18, .int .i8 a0_19, .int .i8 a0_20, .int .i8 a0_21, .int .i8 a0_22, .int .i8 a0_23, .int .i8 a0_24, .int .i8 a0_25, .int .i8 a0_26, .int .i8 a0_27, .slice A0_28 l0_28.length c0_28] 26 (0, 0)) (by (with_reducible repeat (first | refine blk_drewN ?_ _ | refine blk_drew ?_ | refine blk_alloc ?_ _)); exact BK321.out) hb); have n3_ := Aside0.mk (below_step (by repeat (first | (with_reducible first | exact HB.out | apply below_alloc | apply pw_below_drewN | apply below_drew1 | refine below_set ?_ GE321.out) | exact HB.out)) hb); clear HO353; clear BK321; clear HB; have HO353 := n0_; have HO386 := n1_; have BK321 := n2_; have HB := n3_; clear n0_ n1_ n2_ n3_; (try clear hb); (try clear hb2); (try clear hk); (try clear hi); (try clear ho0)) | ((with_reducible refine gate_dst (N := 8) rfl ?_); refine box_event ?hg (N := 8) ?hd (cs := #[.int .i8 0, .int .i8 0, .int .i8 0, .int .i8 0, .int .i8 0, .int .i8 0, .int .i8 0, .int .i8 0, .int .i8 0, .int .i8 0, .int .i8 0, .int .i8 0, .int .i8 0, .int .i8 0, .int .i8 0, .int .i8 0, .int .i8 0, .int .i8 0, .int .i8 0, .int .i8 0, .int .i8 0, .int .i8 0, .int .i8 0, .int .i8 0, .int .i8 0, .int .i8 0, .int .i8 0, .int .i8 0, .slice none 0 0]) (t := 32) ?hr ?_; (case hd => rfl); (case hg => rfl); (case hr => first | (go_simp; done) | (go_simp; rfl)); intro gb387 hg w20 hbox hb; have n0_ := Aside0.mk (Kd.R_below (by (with_reducible repeat (first | apply Kd.R_alloc | apply Kd.R_drewN | apply Kd.R_drew)); exact HO353.out) hb); have n1_ := Aside0.mk (Kd.R_below (by (with_reducible repeat (first | apply Kd.R_alloc | apply Kd.R_drewN | apply Kd.R_drew)); exact HO386.out) hb); have n2_ := Aside0.mk (blk_below (g := gb321) (o := .cells #[.int .i8 a0_0, .int .i8 a0_1, .int .i8 a0_2, .int .i8 a0_3, .int .i8 a0_4, .int .i8 a0_5, .int .i8 a0_6, .int .i8 a0_7, .int .i8 a0_8, .int .i8 a0_9, .int .i8 a0_10, .int .i8 a0_11, .int .i8 a0_12, .int .i8 a0_13, .int .i8 a0_14, .int .i8 a0_15, .int .i8 a0_16, .int .i8 a0_17, .int .i8 a0_18, .int .i8 a0_19, .int .i8 a0_20, .int .i8 a0_21, .int .i8 a0_22, .int .i8 a0_23, .int .i8 a0_24, .int .i8 a0_25, .int .i8 a0_26, .int .i8 a0_27, .slice A0_28 l0_28.length c0_28] 26 (0, 0)) (by (with_reducible repeat (first | refine blk_drewN ?_ _ | refine blk_drew ?_ | refine blk_alloc ?_ _)); exact BK321.out) hb); have n3_ := Aside0.mk (below_step (by repeat (first | (with_reducible first | exact HB.out | apply below_alloc | apply pw_below_drewN | apply below_drew1 | refine below_set ?_ GE321.out) | exact HB.out)) hb); have n4_ := Aside0.mk (hbox); have n5_ := Aside0.mk ((by rw [hg]; exact (below_size (by repeat (first | (with_reducible first | exact HB.out | apply below_alloc | apply pw_below_drewN | apply below_drew1 | refine below_set ?_ GE321.out) | exact HB.out))) : w.heap.size ≤ gb387)); have n6_ := Aside0.mk ((by rw [hg]; exact (below_size (by repeat (first | (with_reducible first | exact HB.out | apply below_alloc | apply pw_below_drewN | apply below_drew1 | refine below_set ?_ GE321.out) | exact HB.out))) : w.heap.size ≤ gb387)); have n7_ := Aside0.mk ((by rw [hg]; exact Nat.ne_of_lt (blk_lt (g := gb321) (o := .cells #[.int .i8 a0_0, .int .i8 a0_1, .int .i8 a0_2, .int .i8 a0_3, .int .i8 a0_4, .int .i8 a0_5, .int .i8 a0_6, .int .i8 a0_7, .int .i8 a0_8, .int .i8 a0_9, .int .i8 a0_10, .int .i8 a0_11, .int .i8 a0_12, .int .i8 a0_13, .int .i8 a0_14, .int .i8 a0_15, .int .i8 a0_16, .int .i8 a0_17, .int .i8 a0_18, .int .i8 a0_19, .int .i8 a0_20, .int .i8 a0_21, .int .i8 a0_22, .int .i8 a0_23, .int .i8 a0_24, .int .i8 a0_25, .int .i8 a0_26, .int .i8 a0_27, .slice A0_28 l0_28.length c0_28] 26 (0, 0)) (by (with_reducible repeat (first | refine blk_drewN ?_ _ | refine blk_drew ?_ | refine blk_alloc ?_ _)); exact BK321.out)) : gb321 ≠ gb387)); have n8_ := Aside0.mk ((by rw [hg]; exact Nat.ne_of_gt (blk_lt (g := gb321) (o := .cells #[.int .i8 a0_0, .int .i8 a0_1, .int .i8 a0_2, .int .i8 a0_3, .int .i8 a0_4, .int .i8 a0_5, .int .i8 a0_6, .int .i8 a0_7, .int .i8 a0_8, .int .i8 a0_9, .int .i8 a0_10, .int .i8 a0_11, .int .i8 a0_12, .int .i8 a0_13, .int .i8 a0_14, .int .i8 a0_15, .int .i8 a0_16, .int .i8 a0_17, .int .i8 a0_18, .int .i8 a0_19, .int .i8 a0_20, .int .i8 a0_21, .int .i8 a0_22, .int .i8 a0_23, .int .i8 a0_24, .int .i8 a0_25, .int .i8 a0_26, .int .i8 a0_27, .slice A0_28 l0_28.length c0_28] 26 (0, 0)) (by (with_reducible repeat (first | refine blk_drewN ?_ _ | refine blk_drew ?_ | refine blk_alloc ?_ _)); exact BK321.out)) : gb387 ≠ gb321)); clear HO353; clear HO386; clear BK321; clear HB; have HO353 := n0_; have HO386 := n1_; have BK321 := n2_; have HB := n3_; have BK387 := n4_; have GW387 := n5_; have GE387 := n6_; have NB321_387 := n7_; have NB387_321 := n8_; clear n0_ n1_ n2_ n3_ n4_ n5_ n6_ n7_ n8_; clear hb hbox hg; obtain ⟨Ao21, co21, eo21⟩ := Kd.R_slice HO386.out; subst eo21) | ((with_reducible refine gate_store (t := 32) (p := 8) rfl ?_); refine ev_store_partx_ rfl 32 (.tmp 8) (.tmp 27) rfl rfl gb387 0 [] [.int .i8 0, .int .i8 0, .int .i8 0, .int .i8 0, .int .i8 0, .int .i8 0, .int .i8 0, .int .i8 0, .int .i8 0, .int .i8 0, .int .i8 0, .int .i8 0, .int .i8 0, .int .i8 0, .int .i8 0, .int .i8 0, .int .i8 0, .int .i8 0, .int .i8 0, .int .i8 0, .int .i8 0, .int .i8 0, .int .i8 0, .int .i8 0, .int .i8 0, .int .i8 0, .int .i8 0, .int .i8 0, .slice none 0 0] [.int .i8 t356, .int .i8 t357, .int .i8 t358, .int .i8 t359, .int .i8 t360, .int .i8 t361, .int .i8 t362, .int .i8 t363, .int .i8 t364, .int .i8 t365, .int .i8 t366, .int .i8 t367, .int .i8 t368, .int .i8 t369, .int .i8 t370, .int .i8 t371, .int .i8 t372, .int .i8 t373, .int .i8 t374, .int .i8 t375, .int .i8 t376, .int .i8 t377, .int .i8 t378, .int .i8 t379, .int .i8 t380, .int .i8 t381, .int .i8 t382, .int .i8 t383, .slice Ao21 t384.length co21] [] rfl rfl 32 rfl rfl (by (with_reducible repeat (first | refine blk_drewN ?_ _ | refine blk_drew ?_ | refine blk_alloc ?_ _)); exact BK387.out) (by exact (show (Tryd.prog.info? 32).map (·.size) = some 29 by kernel_rfl)) rfl ?_; intro w22 hblk hkep hbel; have n0_ := Aside0.mk ((show w22.heap[gb387]? = some (.cells #[.int .i8 t356, .int .i8 t357, .int .i8 t358, .int .i8 t359, .int .i8 t360, .int .i8 t361, .int .i8 t362, .int .i8 t363, .int .i8 t364, .int .i8 t365, .int .i8 t366, .int .i8 t367, .int .i8 t368, .int .i8 t369, .int .i8 t370, .int .i8 t371, .int .i8 t372, .int .i8 t373, .int .i8 t374, .int .i8 t375, .int .i8 t376, .int .i8 t377, .int .i8 t378, .int .i8 t379, .int .i8 t380, .int .i8 t381, .int .i8 t382, .int .i8 t383, .slice Ao21 t384.length co21] 32 (0, 0)) from hblk)); have n1_ := Aside0.mk (blk_kept (by (with_reducible repeat (first | refine blk_drewN ?_ _ | refine blk_drew ?_ | refine blk_alloc ?_ _)); exact BK321.out) hkep (fun e_ => NB321_387.out e_)); have n2_ := Aside0.mk (Kd.R_mono (Kd.R_kept (Kd.R_types (by (with_reducible repeat (first | apply Kd.R_alloc | apply Kd.R_drewN | apply Kd.R_drew)); exact HO353.out) (by (with_reducible repeat (first | refine blk_drewN ?_ _ | refine blk_drew ?_ | refine blk_alloc ?_ _)); exact BK387.out) (by decide)) hkep (fun k_ hk e_ => hk.2 e_)) (fun k_ hk => hk.1)); have n3_ := Aside0.mk (Kd.R_mono (Kd.R_kept (Kd.R_types (by (with_reducible repeat (first | apply Kd.R_alloc | apply Kd.R_drewN | apply Kd.R_drew)); exact HO386.out) (by (with_reducible repeat (first | refine blk_drewN ?_ _ | refine blk_drew ?_ | refine blk_alloc ?_ _)); exact BK387.out) (by decide)) hkep (fun k_ hk e_ => hk.2 e_)) (fun k_ hk => hk.1)); have n4_ := Aside0.mk ((show Below w.heap.size w w22 from Below.trans (by repeat (first | (with_reducible first | exact HB.out | apply below_alloc | apply pw_below_drewN | apply below_drew1 | refine below_set ?_ GE321.out | refine below_set ?_ GE387.out) | exact HB.out)) (hbel _ GW387.out))); clear BK387; clear BK321; clear HO353; clear HO386; clear HB; have BK387 := n0_; have BK321 := n1_; have HO353 := n2_; have HO386 := n3_; have HB := n4_; clear n0_ n1_ n2_ n3_ n4_; clear hblk hkep hbel) | ((with_reducible refine gate_dst (N := 29) rfl ?_); refine wpList_load_mid rfl 32 (.tmp 8) rfl gb387 0 rfl [.int .i8 t356, .int .i8 t357, .int .i8 t358, .int .i8 t359, .int .i8 t360, .int .i8 t361, .int .i8 t362, .int .i8 t363, .int .i8 t364, .int .i8 t365, .int .i8 t366, .int .i8 t367, .int .i8 t368, .int .i8 t369, .int .i8 t370, .int .i8 t371, .int .i8 t372, .int .i8 t373, .int .i8 t374, .int .i8 t375, .int .i8 t376, .int .i8 t377, .int .i8 t378, .int .i8 t379, .int .i8 t380, .int .i8 t381, .int .i8 t382, .int .i8 t383, .slice Ao21 t384.length co21] _ (range_partx_ [] [.int .i8 t356, .int .i8 t357, .int .i8 t358, .int .i8 t359, .int .i8 t360, .int .i8 t361, .int .i8 t362, .int .i8 t363, .int .i8 t364, .int .i8 t365, .int .i8 t366, .int .i8 t367, .int .i8 t368, .int .i8 t369, .int .i8 t370, .int .i8 t371, .int .i8 t372, .int .i8 t373, .int .i8 t374, .int .i8 t375, .int .i8 t376, .int .i8 t377, .int .i8 t378, .int .i8 t379, .int .i8 t380, .int .i8 t381, .int .i8 t382, .int .i8 t383, .slice Ao21 t384.length co21] [] 0 rfl (by (with_reducible repeat (first | refine blk_drewN ?_ _ | refine blk_drew ?_ | refine blk_alloc ?_ _)); exact BK387.out)) Tryd.underlying32 rfl (by exact (show (Tryd.prog.info? 32).map (·.size) = some 29 by kernel_rfl)) ?_) | ((with_reducible refine gate_callee (f := 24) rfl ?_); refine goesL_ (some 31) rfl rfl Tryd.func24 (by kernel_rfl) rfl #[.agg #[.int .i8 t356, .int .i8 t357, .int .i8 t358, .int .i8 t359, .int .i8 t360, .int .i8 t361, .int .i8 t362, .int .i8 t363, .int .i8 t364, .int .i8 t365, .int .i8 t366, .int .i8 t367, .int .i8 t368, .int .i8 t369, .int .i8 t370, .int .i8 t371, .int .i8 t372, .int .i8 t373, .int .i8 t374, .int .i8 t375, .int .i8 t376, .int .i8 t377, .int .i8 t378, .int .i8 t379, .int .i8 t380, .int .i8 t381, .int .i8 t382, .int .i8 t383, .slice Ao21 t384.length co21], .string a1] rfl (by (try simp only [List.map_toArray, List.map_cons, List.map_nil]); first | done | rfl | (simp only [List.length_drop, List.length_take]; rfl)) ?_; (with_reducible refine (impl_LineWide.calls k t356 t357 t358 t359 t360 t361 t362 t363 t364 t365 t366 t367 t368 t369 t370 t371 t372 t373 t374 t375 t376 t377 t378 t379 t380 t381 t382 t383 _ _ t384 a1 t388 t389 _ ?side1 ?side2 ?sideG A12.out).mono ?_); (case sideG => first | exact HG.out.below (by repeat (first | (with_reducible first | exact HB.out | apply below_alloc | apply pw_below_drewN | apply below_drew1) | exact HB.out)) | exact (HG.out.below (by repeat (first | (with_reducible first | exact HB.out | apply below_alloc | apply pw_below_drewN | apply below_drew1) | exact HB.out))).toM); (case side1 => repeat (first | exact (Kd.R_reads' HO386.out).2.2 | (with_reducible refine Kd.C_alloc ?_ _) | (with_reducible refine Kd.C_drewN ?_ _) | (with_reducible refine Kd.C_drew ?_))); (case side2 => exact (Kd.R_reads' HO386.out).2.1); rintro e w23 ⟨rfl, hb⟩; refine ⟨_, rfl, ?_⟩; have n0_ := Aside0.mk (Kd.R_below (by (with_reducible repeat (first | apply Kd.R_alloc | apply Kd.R_drewN | apply Kd.R_drew)); exact HO353.out) hb); have n1_ := Aside0.mk (Kd.R_below (by (with_reducible repeat (first | apply Kd.R_alloc | apply Kd.R_drewN | apply Kd.R_drew)); exact HO386.out) hb); have n2_ := Aside0.mk (blk_below (g := gb321) (o := .cells #[.int .i8 a0_0, .int .i8 a0_1, .int .i8 a0_2, .int .i8 a0_3, .int .i8 a0_4, .int .i8 a0_5, .int .i8 a0_6, .int .i8 a0_7, .int .i8 a0_8, .int .i8 a0_9, .int .i8 a0_10, .int .i8 a0_11, .int .i8 a0_12, .int .i8 a0_13, .int .i8 a0_14, .int .i8 a0_15, .int .i8 a0_16, .int .i8 a0_17, .int .i8 a0_18, .int .i8 a0_19, .int .i8 a0_20, .int .i8 a0_21, .int .i8 a0_22, .int .i8 a0_23, .int .i8 a0_24, .int .i8 a0_25, .int .i8 a0_26, .int .i8 a0_27, .slice A0_28 l0_28.length c0_28] 26 (0, 0)) (by (with_reducible repeat (first | refine blk_drewN ?_ _ | refine blk_drew ?_ | refine blk_alloc ?_ _)); exact BK321.out) hb); have n3_ := Aside0.mk (blk_below (g := gb387) (o := .cells #[.int .i8 t356, .int .i8 t357, .int .i8 t358, .int .i8 t359, .int .i8 t360, .int .i8 t361, .int .i8 t362, .int .i8 t363, .int .i8 t364, .int .i8 t365, .int .i8 t366, .int .i8 t367, .int .i8 t368, .int .i8 t369, .int .i8 t370, .int .i8 t371, .int .i8 t372, .int .i8 t373, .int .i8 t374, .int .i8 t375, .int .i8 t376, .int .i8 t377, .int .i8 t378, .int .i8 t379, .int .i8 t380, .int .i8 t381, .int .i8 t382, .int .i8 t383, .slice Ao21 t384.length co21] 32 (0, 0)) (by (with_reducible repeat (first | refine blk_drewN ?_ _ | refine blk_drew ?_ | refine blk_alloc ?_ _)); exact BK387.out) hb); have n4_ := Aside0.mk (below_step (by repeat (first | (with_reducible first | exact HB.out | apply below_alloc | apply pw_below_drewN | apply below_drew1 | refine below_set ?_ GE321.out | refine below_set ?_ GE387.out) | exact HB.out)) hb); clear HO353; clear HO386; clear BK321; clear BK387; clear HB; have HO353 := n0_; have HO386 := n1_; have BK321 := n2_; have BK387 := n3_; have HB := n4_; clear n0_ n1_ n2_ n3_ n4_; (try clear hb); (try clear hb2); (try clear hk); (try clear hi)))
      (try simp only [Act.put, List.setIfInBounds_toArray, List.set_cons_zero, List.set_cons_succ])
      go_cut [41] (fun v41 wc => ∃ (kq : Nat) (x41_12 : Bool), v41 = .bool x41_12 ∧ Aside0 (laws_FnExactLineWide.j0 kq x41_12 a0_0 a0_1 a0_2 a0_3 a0_4 a0_5 a0_6 a0_7 a0_8 a0_9 a0_10 a0_11 a0_12 a0_13 a0_14 a0_15 a0_16 a0_17 a0_18 a0_19 a0_20 a0_21 a0_22 a0_23 a0_24 a0_25 a0_26 a0_27 l0_28 t356 t357 t358 t359 t360 t361 t362 t363 t364 t365 t366 t367 t368 t369 t370 t371 t372 t373 t374 t375 t376 t377 t378 t379 t380 t381 t382 t383 t384 = some r) ∧ Aside0 (kq ≤ k) ∧ Aside0 (Kd.R k137 137 wc w.heap.size (fun _ => True) (.slice Ao21 t384.length co21) t384) ∧ Aside0 (wc.heap[gb321]? = some (.cells #[.int .i8 a0_0, .int .i8 a0_1, .int .i8 a0_2, .int .i8 a0_3, .int .i8 a0_4, .int .i8 a0_5, .int .i8 a0_6, .int .i8 a0_7, .int .i8 a0_8, .int .i8 a0_9, .int .i8 a0_10, .int .i8 a0_11, .int .i8 a0_12, .int .i8 a0_13, .int .i8 a0_14, .int .i8 a0_15, .int .i8 a0_16, .int .i8 a0_17, .int .i8 a0_18, .int .i8 a0_19, .int .i8 a0_20, .int .i8 a0_21, .int .i8 a0_22, .int .i8 a0_23, .int .i8 a0_24, .int .i8 a0_25, .int .i8 a0_26, .int .i8 a0_27, (.slice A0_28 l0_28.length c0_28)] 26 (0, 0))) ∧ Aside0 (wc.heap[gb387]? = some (.cells #[.int .i8 t356, .int .i8 t357, .int .i8 t358, .int .i8 t359, .int .i8 t360, .int .i8 t361, .int .i8 t362, .int .i8 t363, .int .i8 t364, .int .i8 t365, .int .i8 t366, .int .i8 t367, .int .i8 t368, .int .i8 t369, .int .i8 t370, .int .i8 t371, .int .i8 t372, .int .i8 t373, .int .i8 t374, .int .i8 t375, .int .i8 t376, .int .i8 t377, .int .i8 t378, .int .i8 t379, .int .i8 t380, .int .i8 t381, .int .i8 t382, .int .i8 t383, (.slice Ao21 t384.length co21)] 32 (0, 0))) ∧ Aside0 (Below w.heap.size w wc))
      case first =>
        have H := HC13.out
        clear HC13
        by_cases c24 : t388 = t354
        · rw [if_pos c24] at H
          have c24b0 : (t388 == t354) = true := beq_iff_eq.mpr c24
          have c24b1 : (t388 != t354) = false := bne_eq_false_iff_eq.mpr c24
          clear c24
          (first | rw [c24b0] | (simp only [i64_w, i32_w]; rw [c24b0]) | skip)
          have H' := Aside0.mk H
          clear H
          go_wp2
          go_meet
          case rel => exact ⟨_, ((t389 != t355)), (by first | rfl | (simp; done) | (simp [*]; done)), H', ⟨by first | omega | exact Nat.le_refl _⟩, ⟨by (with_reducible repeat (first | apply Kd.R_alloc | apply Kd.R_drewN | apply Kd.R_drew)); exact Kd.R_mono HO386.out (fun _ hk => trivial)⟩, ⟨by (with_reducible repeat (first | refine blk_drewN ?_ _ | refine blk_drew ?_ | refine blk_alloc ?_ _)); exact BK321.out⟩, ⟨by (with_reducible repeat (first | refine blk_drewN ?_ _ | refine blk_drew ?_ | refine blk_alloc ?_ _)); exact BK387.out⟩, ⟨by repeat (first | (with_reducible first | exact HB.out | apply below_alloc | apply pw_below_drewN | apply below_drew1 | refine below_set ?_ GE321.out | refine below_set ?_ GE387.out) | exact HB.out)⟩⟩
        · rw [if_neg c24] at H
          have c24b0 : (t388 == t354) = false := beq_eq_false_iff_ne.mpr c24
          have c24b1 : (t388 != t354) = true := bne_iff_ne.mpr c24
          (first | rw [c24b0] | (simp only [i64_w, i32_w]; rw [c24b0]) | skip)
          have H' := Aside0.mk H
          clear H
          go_wp2
          go_meet
          case rel => exact ⟨_, (true), (by first | rfl | (simp; done) | (simp [*]; done)), H', ⟨by first | omega | exact Nat.le_refl _⟩, ⟨by (with_reducible repeat (first | apply Kd.R_alloc | apply Kd.R_drewN | apply Kd.R_drew)); exact Kd.R_mono HO386.out (fun _ hk => trivial)⟩, ⟨by (with_reducible repeat (first | refine blk_drewN ?_ _ | refine blk_drew ?_ | refine blk_alloc ?_ _)); exact BK321.out⟩, ⟨by (with_reducible repeat (first | refine blk_drewN ?_ _ | refine blk_drew ?_ | refine blk_alloc ?_ _)); exact BK387.out⟩, ⟨by repeat (first | (with_reducible first | exact HB.out | apply below_alloc | apply pw_below_drewN | apply below_drew1 | refine below_set ?_ GE321.out | refine below_set ?_ GE387.out) | exact HB.out)⟩⟩
      case rest =>
        clear HC13
        try clear c1
        try clear c2
        try clear p2
        try clear c3
        try clear c3b0
        try clear c3b1
        try clear c4
        try clear c6
        try clear c6b0
        try clear c18
        try clear c20
        try clear c23
        try clear c24
        try clear c24b0
        try clear c24b1
        obtain ⟨kq, x41_12, rfl, HA, HJ12, HO_388028, BK321, BK387, HB⟩ := hcut
        cases kq with
        | zero => exact absurd HA.out (by simp [laws_FnExactLineWide.j0])
        | succ kj12 =>
          have H := HA.out
          clear HA
          simp only [laws_FnExactLineWide.j0] at H
          by_cases c25 : x41_12 = true
          · subst c25
            have H1 : (some false) = some r := by rw [if_pos rfl] at H; exact H
            clear H
            have H := H1
            clear H1
            obtain rfl := Option.some.inj H
            go_wp2
            go_ret
            exact ⟨by first | rfl | (simp [errW_none, errW_some] <;> rfl) | (simp [*, errW_none, errW_some] <;> rfl), by repeat (first | (with_reducible first | exact HB.out | apply below_alloc | apply pw_below_drewN | apply below_drew1 | refine below_set ?_ GE321.out | refine below_set ?_ GE387.out) | exact HB.out)⟩
          · replace c25 := Bool.eq_false_iff.mpr c25
            subst c25
            have H1 : ((laws_toFace.f a0_0 a0_1 a0_2 a0_3 a0_4 a0_5 a0_6 a0_7 a0_8 a0_9 a0_10 a0_11 a0_12 a0_13 a0_14 a0_15 a0_16 a0_17 a0_18 a0_19 a0_20 a0_21 a0_22 a0_23 a0_24 a0_25 a0_26 a0_27 l0_28).bind fun bt390 => ((laws_eqFace.f kj12 t356 t357 t358 t359 t360 t361 t362 t363 t364 t365 t366 t367 t368 t369 t370 t371 t372 t373 t374 t375 t376 t377 t378 t379 t380 t381 t382 t383 t384 bt390.1 bt390.2.1 bt390.2.2.1 bt390.2.2.2.1 bt390.2.2.2.2.1 bt390.2.2.2.2.2.1 bt390.2.2.2.2.2.2.1 bt390.2.2.2.2.2.2.2.1 bt390.2.2.2.2.2.2.2.2.1 bt390.2.2.2.2.2.2.2.2.2.1 bt390.2.2.2.2.2.2.2.2.2.2.1 bt390.2.2.2.2.2.2.2.2.2.2.2.1 bt390.2.2.2.2.2.2.2.2.2.2.2.2.1 bt390.2.2.2.2.2.2.2.2.2.2.2.2.2.1 bt390.2.2.2.2.2.2.2.2.2.2.2.2.2.2.1 bt390.2.2.2.2.2.2.2.2.2.2.2.2.2.2.2.1 bt390.2.2.2.2.2.2.2.2.2.2.2.2.2.2.2.2.1 bt390.2.2.2.2.2.2.2.2.2.2.2.2.2.2.2.2.2.1 bt390.2.2.2.2.2.2.2.2.2.2.2.2.2.2.2.2.2.2.1 bt390.2.2.2.2.2.2.2.2.2.2.2.2.2.2.2.2.2.2.2.1 bt390.2.2.2.2.2.2.2.2.2.2.2.2.2.2.2.2.2.2.2.2.1 bt390.2.2.2.2.2.2.2.2.2.2.2.2.2.2.2.2.2.2.2.2.2.1 bt390.2.2.2.2.2.2.2.2.2.2.2.2.2.2.2.2.2.2.2.2.2.2.1 bt390.2.2.2.2.2.2.2.2.2.2.2.2.2.2.2.2.2.2.2.2.2.2.2.1 bt390.2.2.2.2.2.2.2.2.2.2.2.2.2.2.2.2.2.2.2.2.2.2.2.2.1 bt390.2.2.2.2.2.2.2.2.2.2.2.2.2.2.2.2.2.2.2.2.2.2.2.2.2.1 bt390.2.2.2.2.2.2.2.2.2.2.2.2.2.2.2.2.2.2.2.2.2.2.2.2.2.2.1 bt390.2.2.2.2.2.2.2.2.2.2.2.2.2.2.2.2.2.2.2.2.2.2.2.2.2.2.2.1 bt390.2.2.2.2.2.2.2.2.2.2.2.2.2.2.2.2.2.2.2.2.2.2.2.2.2.2.2.2).bind fun t421 => (if t421 = true then (some true) else (some false)))) = some r := by rw [if_neg (show ¬ (false = true) by decide)] at H; exact H
            clear H
            have H := H1
            clear H1
            replace H := Option.bind_eq_some_iff.mp H
            obtain ⟨⟨t390, t391, t392, t393, t394, t395, t396, t397, t398, t399, t400, t401, t402, t403, t404, t405, t406, t407, t408, t409, t410, t411, t412, t413, t414, t415, t416, t417, t418⟩, A260, H⟩ := H
            replace H : ((laws_eqFace.f kj12 t356 t357 t358 t359 t360 t361 t362 t363 t364 t365 t366 t367 t368 t369 t370 t371 t372 t373 t374 t375 t376 t377 t378 t379 t380 t381 t382 t383 t384 t390 t391 t392 t393 t394 t395 t396 t397 t398 t399 t400 t401 t402 t403 t404 t405 t406 t407 t408 t409 t410 t411 t412 t413 t414 t415 t416 t417 t418).bind fun t421 => (if t421 = true then (some true) else (some false))) = some r := H
            have A26 := Aside0.mk A260
            clear A260
            replace H := Option.bind_eq_some_iff.mp H
            obtain ⟨t421, A270, H⟩ := H
            replace H : (if t421 = true then (some true) else (some false)) = some r := H
            have A27 := Aside0.mk A270
            clear A270
            by_cases c28 : t421 = true
            · subst c28
              have H1 : (some true) = some r := by rw [if_pos rfl] at H; exact H
              clear H
              have H := H1
              clear H1
              obtain rfl := Option.some.inj H
              try go_wp2
              have n0_ := Aside0.mk (Kd.R_drew HO_388028.out)
              have n1_ := Aside0.mk (blk_drew BK321.out)
              have n2_ := Aside0.mk (blk_drew BK387.out)
              have n3_ := Aside0.mk (below_drew1 HB.out)
              clear HO_388028
              clear BK321
              clear BK387
              clear HB
              have HO_388028 := n0_
              have BK321 := n1_
              have BK387 := n2_
              have HB := n3_
              clear n0_ n1_ n2_ n3_
              refine start_ (n := 5) (S := fun w' => w'.heap[gb387]? = some (.cells #[.int .i8 t356, .int .i8 t357, .int .i8 t358, .int .i8 t359, .int .i8 t360, .int .i8 t361, .int .i8 t362, .int .i8 t363, .int .i8 t364, .int .i8 t365, .int .i8 t366, .int .i8 t367, .int .i8 t368, .int .i8 t369, .int .i8 t370, .int .i8 t371, .int .i8 t372, .int .i8 t373, .int .i8 t374, .int .i8 t375, .int .i8 t376, .int .i8 t377, .int .i8 t378, .int .i8 t379, .int .i8 t380, .int .i8 t381, .int .i8 t382, .int .i8 t383, .slice Ao21 t384.length co21] 32 (0, 0)) ∧ w'.heap[gb321]? = some (.cells #[.int .i8 a0_0, .int .i8 a0_1, .int .i8 a0_2, .int .i8 a0_3, .int .i8 a0_4, .int .i8 a0_5, .int .i8 a0_6, .int .i8 a0_7, .int .i8 a0_8, .int .i8 a0_9, .int .i8 a0_10, .int .i8 a0_11, .int .i8 a0_12, .int .i8 a0_13, .int .i8 a0_14, .int .i8 a0_15, .int .i8 a0_16, .int .i8 a0_17, .int .i8 a0_18, .int .i8 a0_19, .int .i8 a0_20, .int .i8 a0_21, .int .i8 a0_22, .int .i8 a0_23, .int .i8 a0_24, .int .i8 a0_25, .int .i8 a0_26, .int .i8 a0_27, .slice A0_28 l0_28.length c0_28] 26 (0, 0))) (ds := []) #[false, false, false, false, false] (by kernel_rfl) rfl rfl ⟨BK387.out, BK321.out⟩ (fun hHeld => ?_)
              generalize wc.drew = w29 at HO_388028 BK321 BK387 HB hHeld ⊢
              refine take_ (i := 0) (N := some 42) (v := ?_) (a' := ?_) #[true, false, false, false, false] rfl rfl (by kernel_rfl) (fun _ _ _ h => h) (Or.inl ⟨by rfl, ?_⟩) hHeld ?_ ?_
              rotate_left
              · rintro w' ⟨s0, s1⟩
                refine exec_load_partx_ 32 (.tmp 8) _ 0 [] [.int .i8 t356, .int .i8 t357, .int .i8 t358, .int .i8 t359, .int .i8 t360, .int .i8 t361, .int .i8 t362, .int .i8 t363, .int .i8 t364, .int .i8 t365, .int .i8 t366, .int .i8 t367, .int .i8 t368, .int .i8 t369, .int .i8 t370, .int .i8 t371, .int .i8 t372, .int .i8 t373, .int .i8 t374, .int .i8 t375, .int .i8 t376, .int .i8 t377, .int .i8 t378, .int .i8 t379, .int .i8 t380, .int .i8 t381, .int .i8 t382, .int .i8 t383, .slice Ao21 t384.length co21] [] rfl s0 ?_ ?_ Tryd.underlying32 rfl (by exact (show (Tryd.prog.info? 32).map (·.size) = some 29 by kernel_rfl))
                · rfl
                · rfl
              rotate_left
              · simp only [Act.put, List.setIfInBounds_toArray, List.set_cons_zero, List.set_cons_succ, i64_w, i32_w, u8_w_]
                rfl
              refine take_ (i := 1) (N := some 43) (v := ?_) (a' := ?_) #[true, true, false, false, false] rfl rfl (by kernel_rfl) (fun _ _ _ h => h) (Or.inl ⟨by rfl, ?_⟩) hHeld ?_ ?_
              rotate_left
              · rintro w' ⟨s0, s1⟩
                refine exec_load_partx_ 26 (.tmp 2) _ 0 [] [.int .i8 a0_0, .int .i8 a0_1, .int .i8 a0_2, .int .i8 a0_3, .int .i8 a0_4, .int .i8 a0_5, .int .i8 a0_6, .int .i8 a0_7, .int .i8 a0_8, .int .i8 a0_9, .int .i8 a0_10, .int .i8 a0_11, .int .i8 a0_12, .int .i8 a0_13, .int .i8 a0_14, .int .i8 a0_15, .int .i8 a0_16, .int .i8 a0_17, .int .i8 a0_18, .int .i8 a0_19, .int .i8 a0_20, .int .i8 a0_21, .int .i8 a0_22, .int .i8 a0_23, .int .i8 a0_24, .int .i8 a0_25, .int .i8 a0_26, .int .i8 a0_27, .slice A0_28 l0_28.length c0_28] [] rfl s1 ?_ ?_ Tryd.underlying26 rfl (by exact (show (Tryd.prog.info? 26).map (·.size) = some 29 by kernel_rfl))
                · rfl
                · rfl
              rotate_left
              · simp only [Act.put, List.setIfInBounds_toArray, List.set_cons_zero, List.set_cons_succ, i64_w, i32_w, u8_w_]
                rfl
              refine one_ (i := 2) (N := some 44) #[true, true, true, false, false] rfl rfl (by kernel_rfl) (by decide) (fun K hK => ?_)
              refine goes_ Tryd.func20 (by kernel_rfl) rfl #[.agg #[.int .i8 a0_0, .int .i8 a0_1, .int .i8 a0_2, .int .i8 a0_3, .int .i8 a0_4, .int .i8 a0_5, .int .i8 a0_6, .int .i8 a0_7, .int .i8 a0_8, .int .i8 a0_9, .int .i8 a0_10, .int .i8 a0_11, .int .i8 a0_12, .int .i8 a0_13, .int .i8 a0_14, .int .i8 a0_15, .int .i8 a0_16, .int .i8 a0_17, .int .i8 a0_18, .int .i8 a0_19, .int .i8 a0_20, .int .i8 a0_21, .int .i8 a0_22, .int .i8 a0_23, .int .i8 a0_24, .int .i8 a0_25, .int .i8 a0_26, .int .i8 a0_27, .slice A0_28 l0_28.length c0_28]] (by rfl) rfl rfl (by (try simp only [List.map_toArray, List.map_cons, List.map_nil]); first | done | rfl | (simp only [List.length_drop, List.length_take]; rfl)) ?_
              with_reducible refine (laws_toFace.calls a0_0 a0_1 a0_2 a0_3 a0_4 a0_5 a0_6 a0_7 a0_8 a0_9 a0_10 a0_11 a0_12 a0_13 a0_14 a0_15 a0_16 a0_17 a0_18 a0_19 a0_20 a0_21 a0_22 a0_23 a0_24 a0_25 a0_26 a0_27 _ _ l0_28 t390 t391 t392 t393 t394 t395 t396 t397 t398 t399 t400 t401 t402 t403 t404 t405 t406 t407 t408 t409 t410 t411 t412 t413 t414 t415 t416 t417 t418 _ ?side1 ?side2 A26.out).mono ?_
              (case side1 => repeat (first | exact (Kd.C_below HR0_28.out HB.out) | (with_reducible refine Kd.C_alloc ?_ _) | (with_reducible refine Kd.C_drewN ?_ _) | (with_reducible refine Kd.C_drew ?_)))
              (case side2 => exact HC0_28.out)
              rintro e w30 ⟨v419, rfl, ho0, hb⟩
              refine ⟨_, rfl, ?_⟩
              have n0_ := Aside0.mk (Kd.R_elder' (by (with_reducible repeat (first | apply Kd.R_alloc | apply Kd.R_drewN | apply Kd.R_drew)); exact HO_388028.out) (Kd.R_base ho0) hb)
              have n1_ := Aside0.mk (Kd.R_lower (Kd.R_new' ho0 (Kd.R_lt (by (with_reducible repeat (first | apply Kd.R_alloc | apply Kd.R_drewN | apply Kd.R_drew)); exact HO_388028.out))) (below_size (by repeat (first | (with_reducible first | exact HB.out | apply below_alloc | apply pw_below_drewN | apply below_drew1 | refine below_set ?_ GE321.out | refine below_set ?_ GE387.out) | exact HB.out))))
              have n2_ := Aside0.mk (blk_below (g := gb321) (o := .cells #[.int .i8 a0_0, .int .i8 a0_1, .int .i8 a0_2, .int .i8 a0_3, .int .i8 a0_4, .int .i8 a0_5, .int .i8 a0_6, .int .i8 a0_7, .int .i8 a0_8, .int .i8 a0_9, .int .i8 a0_10, .int .i8 a0_11, .int .i8 a0_12, .int .i8 a0_13, .int .i8 a0_14, .int .i8 a0_15, .int .i8 a0_16, .int .i8 a0_17, .int .i8 a0_18, .int .i8 a0_19, .int .i8 a0_20, .int .i8 a0_21, .int .i8 a0_22, .int .i8 a0_23, .int .i8 a0_24, .int .i8 a0_25, .int .i8 a0_26, .int .i8 a0_27, .slice A0_28 l0_28.length c0_28] 26 (0, 0)) (by (with_reducible repeat (first | refine blk_drewN ?_ _ | refine blk_drew ?_ | refine blk_alloc ?_ _)); exact BK321.out) hb)
              have n3_ := Aside0.mk (blk_below (g := gb387) (o := .cells #[.int .i8 t356, .int .i8 t357, .int .i8 t358, .int .i8 t359, .int .i8 t360, .int .i8 t361, .int .i8 t362, .int .i8 t363, .int .i8 t364, .int .i8 t365, .int .i8 t366, .int .i8 t367, .int .i8 t368, .int .i8 t369, .int .i8 t370, .int .i8 t371, .int .i8 t372, .int .i8 t373, .int .i8 t374, .int .i8 t375, .int .i8 t376, .int .i8 t377, .int .i8 t378, .int .i8 t379, .int .i8 t380, .int .i8 t381, .int .i8 t382, .int .i8 t383, .slice Ao21 t384.length co21] 32 (0, 0)) (by (with_reducible repeat (first | refine blk_drewN ?_ _ | refine blk_drew ?_ | refine blk_alloc ?_ _)); exact BK387.out) hb)
              have n4_ := Aside0.mk (below_step (by repeat (first | (with_reducible first | exact HB.out | apply below_alloc | apply pw_below_drewN | apply below_drew1 | refine below_set ?_ GE321.out | refine below_set ?_ GE387.out) | exact HB.out)) hb)
              clear HO_388028
              clear BK321
              clear BK387
              clear HB
              have HO_388028 := n0_
              have HO420 := n1_
              have BK321 := n2_
              have BK387 := n3_
              have HB := n4_
              clear n0_ n1_ n2_ n3_ n4_
              (try clear hb)
              (try clear hb2)
              (try clear hk)
              (try clear hi)
              (try clear ho0)
              obtain ⟨Ao31, co31, eo31⟩ := Kd.R_slice HO420.out
              (first | subst eo31 | (injection eo31 with f1_ f2_ f3_; have f4_ := f1_.symm; have f5_ := f3_.symm; clear f1_ f2_ f3_; subst f4_; subst f5_))
              refine hK.out _ _ ⟨BK387.out, BK321.out⟩ (fun hHeld => ?_)
              clear hK K
              refine norm_ (a' := ?_) ?_ ?_
              rotate_left
              · show Act.put _ (some 44) _ = _
                simp only [Act.put, List.setIfInBounds_toArray, List.set_cons_zero, List.set_cons_succ, i64_w, i32_w, u8_w_]
                rfl
              refine one_ (i := 3) (N := some 45) #[true, true, true, true, false] rfl rfl (by kernel_rfl) (by decide) (fun K hK => ?_)
              refine goes_ Tryd.func22 (by kernel_rfl) rfl #[.agg #[.int .i8 t356, .int .i8 t357, .int .i8 t358, .int .i8 t359, .int .i8 t360, .int .i8 t361, .int .i8 t362, .int .i8 t363, .int .i8 t364, .int .i8 t365, .int .i8 t366, .int .i8 t367, .int .i8 t368, .int .i8 t369, .int .i8 t370, .int .i8 t371, .int .i8 t372, .int .i8 t373, .int .i8 t374, .int .i8 t375, .int .i8 t376, .int .i8 t377, .int .i8 t378, .int .i8 t379, .int .i8 t380, .int .i8 t381, .int .i8 t382, .int .i8 t383, .slice Ao21 t384.length co21], .agg #[.int .i8 t390, .int .i8 t391, .int .i8 t392, .int .i8 t393, .int .i8 t394, .int .i8 t395, .int .i8 t396, .int .i8 t397, .int .i8 t398, .int .i8 t399, .int .i8 t400, .int .i8 t401, .int .i8 t402, .int .i8 t403, .int .i8 t404, .int .i8 t405, .int .i8 t406, .int .i8 t407, .int .i8 t408, .int .i8 t409, .int .i8 t410, .int .i8 t411, .int .i8 t412, .int .i8 t413, .int .i8 t414, .int .i8 t415, .int .i8 t416, .int .i8 t417, .slice Ao31 t418.length co31]] (by rfl) rfl rfl (by (try simp only [List.map_toArray, List.map_cons, List.map_nil]); first | done | rfl | (simp only [List.length_drop, List.length_take]; rfl)) ?_
              with_reducible refine (laws_eqFace.calls kj12 t356 t357 t358 t359 t360 t361 t362 t363 t364 t365 t366 t367 t368 t369 t370 t371 t372 t373 t374 t375 t376 t377 t378 t379 t380 t381 t382 t383 _ _ t384 t390 t391 t392 t393 t394 t395 t396 t397 t398 t399 t400 t401 t402 t403 t404 t405 t406 t407 t408 t409 t410 t411 t412 t413 t414 t415 t416 t417 _ _ t418 true _ ?side1 ?side2 ?side3 ?side4 A27.out).mono ?_
              (case side1 => repeat (first | exact (Kd.R_reads' HO_388028.out).2.2 | (with_reducible refine Kd.C_alloc ?_ _) | (with_reducible refine Kd.C_drewN ?_ _) | (with_reducible refine Kd.C_drew ?_)))
              (case side2 => exact (Kd.R_reads' HO_388028.out).2.1)
              (case side3 => repeat (first | exact (Kd.R_reads' HO420.out).2.2 | (with_reducible refine Kd.C_alloc ?_ _) | (with_reducible refine Kd.C_drewN ?_ _) | (with_reducible refine Kd.C_drew ?_)))
              (case side4 => exact (Kd.R_reads' HO420.out).2.1)
              rintro e w32 ⟨rfl, hb⟩
              refine ⟨_, rfl, ?_⟩
              have n0_ := Aside0.mk (Kd.R_below (by (with_reducible repeat (first | apply Kd.R_alloc | apply Kd.R_drewN | apply Kd.R_drew)); exact HO_388028.out) hb)
              have n1_ := Aside0.mk (Kd.R_below (by (with_reducible repeat (first | apply Kd.R_alloc | apply Kd.R_drewN | apply Kd.R_drew)); exact HO420.out) hb)
              have n2_ := Aside0.mk (blk_below (g := gb321) (o := .cells #[.int .i8 a0_0, .int .i8 a0_1, .int .i8 a0_2, .int .i8 a0_3, .int .i8 a0_4, .int .i8 a0_5, .int .i8 a0_6, .int .i8 a0_7, .int .i8 a0_8, .int .i8 a0_9, .int .i8 a0_10, .int .i8 a0_11, .int .i8 a0_12, .int .i8 a0_13, .int .i8 a0_14, .int .i8 a0_15, .int .i8 a0_16, .int .i8 a0_17, .int .i8 a0_18, .int .i8 a0_19, .int .i8 a0_20, .int .i8 a0_21, .int .i8 a0_22, .int .i8 a0_23, .int .i8 a0_24, .int .i8 a0_25, .int .i8 a0_26, .int .i8 a0_27, .slice A0_28 l0_28.length c0_28] 26 (0, 0)) (by (with_reducible repeat (first | refine blk_drewN ?_ _ | refine blk_drew ?_ | refine blk_alloc ?_ _)); exact BK321.out) hb)
              have n3_ := Aside0.mk (blk_below (g := gb387) (o := .cells #[.int .i8 t356, .int .i8 t357, .int .i8 t358, .int .i8 t359, .int .i8 t360, .int .i8 t361, .int .i8 t362, .int .i8 t363, .int .i8 t364, .int .i8 t365, .int .i8 t366, .int .i8 t367, .int .i8 t368, .int .i8 t369, .int .i8 t370, .int .i8 t371, .int .i8 t372, .int .i8 t373, .int .i8 t374, .int .i8 t375, .int .i8 t376, .int .i8 t377, .int .i8 t378, .int .i8 t379, .int .i8 t380, .int .i8 t381, .int .i8 t382, .int .i8 t383, .slice Ao21 t384.length co21] 32 (0, 0)) (by (with_reducible repeat (first | refine blk_drewN ?_ _ | refine blk_drew ?_ | refine blk_alloc ?_ _)); exact BK387.out) hb)
              have n4_ := Aside0.mk (below_step (by repeat (first | (with_reducible first | exact HB.out | apply below_alloc | apply pw_below_drewN | apply below_drew1 | refine below_set ?_ GE321.out | refine below_set ?_ GE387.out) | exact HB.out)) hb)
              clear HO_388028
              clear HO420
              clear BK321
              clear BK387
              clear HB
              have HO_388028 := n0_
              have HO420 := n1_
              have BK321 := n2_
              have BK387 := n3_
              have HB := n4_
              clear n0_ n1_ n2_ n3_ n4_
              (try clear hb)
              (try clear hb2)
              (try clear hk)
              (try clear hi)
              refine hK.out _ _ ⟨BK387.out, BK321.out⟩ (fun hHeld => ?_)
              clear hK K
              refine norm_ (a' := ?_) ?_ ?_
              rotate_left
              · show Act.put _ (some 45) _ = _
                simp only [Act.put, List.setIfInBounds_toArray, List.set_cons_zero, List.set_cons_succ, i64_w, i32_w, u8_w_]
                rfl
              refine pure_ (i := 4) (N := some 46) (v := ?_) (a' := ?_) #[true, true, true, true, true] rfl rfl (by kernel_rfl) (fun _ _ _ h => h) (Or.inl ⟨by rfl, ?_⟩) ?_ ?_
              rotate_left
              · intro w'
                go_simp
                with_reducible rfl
              rotate_left
              · simp only [Act.put, List.setIfInBounds_toArray, List.set_cons_zero, List.set_cons_succ, i64_w, i32_w, u8_w_]
                rfl
              refine done_ (by kernel_rfl) ?_
              try go_wp2
              go_ret
              exact ⟨by first | rfl | (simp [errW_none, errW_some] <;> rfl) | (simp [*, errW_none, errW_some] <;> rfl), by repeat (first | (with_reducible first | exact HB.out | apply below_alloc | apply pw_below_drewN | apply below_drew1 | refine below_set ?_ GE321.out | refine below_set ?_ GE387.out) | exact HB.out)⟩
            · replace c28 := Bool.eq_false_iff.mpr c28
              subst c28
              have H1 : (some false) = some r := by rw [if_neg (show ¬ (false = true) by decide)] at H; exact H
              clear H
              have H := H1
              clear H1
              obtain rfl := Option.some.inj H
              try go_wp2
              have n0_ := Aside0.mk (Kd.R_drew HO_388028.out)
              have n1_ := Aside0.mk (blk_drew BK321.out)
              have n2_ := Aside0.mk (blk_drew BK387.out)
              have n3_ := Aside0.mk (below_drew1 HB.out)
              clear HO_388028
              clear BK321
              clear BK387
              clear HB
              have HO_388028 := n0_
              have BK321 := n1_
              have BK387 := n2_
              have HB := n3_
              clear n0_ n1_ n2_ n3_
              refine start_ (n := 5) (S := fun w' => w'.heap[gb387]? = some (.cells #[.int .i8 t356, .int .i8 t357, .int .i8 t358, .int .i8 t359, .int .i8 t360, .int .i8 t361, .int .i8 t362, .int .i8 t363, .int .i8 t364, .int .i8 t365, .int .i8 t366, .int .i8 t367, .int .i8 t368, .int .i8 t369, .int .i8 t370, .int .i8 t371, .int .i8 t372, .int .i8 t373, .int .i8 t374, .int .i8 t375, .int .i8 t376, .int .i8 t377, .int .i8 t378, .int .i8 t379, .int .i8 t380, .int .i8 t381, .int .i8 t382, .int .i8 t383, .slice Ao21 t384.length co21] 32 (0, 0)) ∧ w'.heap[gb321]? = some (.cells #[.int .i8 a0_0, .int .i8 a0_1, .int .i8 a0_2, .int .i8 a0_3, .int .i8 a0_4, .int .i8 a0_5, .int .i8 a0_6, .int .i8 a0_7, .int .i8 a0_8, .int .i8 a0_9, .int .i8 a0_10, .int .i8 a0_11, .int .i8 a0_12, .int .i8 a0_13, .int .i8 a0_14, .int .i8 a0_15, .int .i8 a0_16, .int .i8 a0_17, .int .i8 a0_18, .int .i8 a0_19, .int .i8 a0_20, .int .i8 a0_21, .int .i8 a0_22, .int .i8 a0_23, .int .i8 a0_24, .int .i8 a0_25, .int .i8 a0_26, .int .i8 a0_27, .slice A0_28 l0_28.length c0_28] 26 (0, 0))) (ds := []) #[false, false, false, false, false] (by kernel_rfl) rfl rfl ⟨BK387.out, BK321.out⟩ (fun hHeld => ?_)
              generalize wc.drew = w33 at HO_388028 BK321 BK387 HB hHeld ⊢
              refine take_ (i := 0) (N := some 42) (v := ?_) (a' := ?_) #[true, false, false, false, false] rfl rfl (by kernel_rfl) (fun _ _ _ h => h) (Or.inl ⟨by rfl, ?_⟩) hHeld ?_ ?_
              rotate_left
              · rintro w' ⟨s0, s1⟩
                refine exec_load_partx_ 32 (.tmp 8) _ 0 [] [.int .i8 t356, .int .i8 t357, .int .i8 t358, .int .i8 t359, .int .i8 t360, .int .i8 t361, .int .i8 t362, .int .i8 t363, .int .i8 t364, .int .i8 t365, .int .i8 t366, .int .i8 t367, .int .i8 t368, .int .i8 t369, .int .i8 t370, .int .i8 t371, .int .i8 t372, .int .i8 t373, .int .i8 t374, .int .i8 t375, .int .i8 t376, .int .i8 t377, .int .i8 t378, .int .i8 t379, .int .i8 t380, .int .i8 t381, .int .i8 t382, .int .i8 t383, .slice Ao21 t384.length co21] [] rfl s0 ?_ ?_ Tryd.underlying32 rfl (by exact (show (Tryd.prog.info? 32).map (·.size) = some 29 by kernel_rfl))
                · rfl
                · rfl
              rotate_left
              · simp only [Act.put, List.setIfInBounds_toArray, List.set_cons_zero, List.set_cons_succ, i64_w, i32_w, u8_w_]
                rfl
              refine take_ (i := 1) (N := some 43) (v := ?_) (a' := ?_) #[true, true, false, false, false] rfl rfl (by kernel_rfl) (fun _ _ _ h => h) (Or.inl ⟨by rfl, ?_⟩) hHeld ?_ ?_
              rotate_left
              · rintro w' ⟨s0, s1⟩
                refine exec_load_partx_ 26 (.tmp 2) _ 0 [] [.int .i8 a0_0, .int .i8 a0_1, .int .i8 a0_2, .int .i8 a0_3, .int .i8 a0_4, .int .i8 a0_5, .int .i8 a0_6, .int .i8 a0_7, .int .i8 a0_8, .int .i8 a0_9, .int .i8 a0_10, .int .i8 a0_11, .int .i8 a0_12, .int .i8 a0_13, .int .i8 a0_14, .int .i8 a0_15, .int .i8 a0_16, .int .i8 a0_17, .int .i8 a0_18, .int .i8 a0_19, .int .i8 a0_20, .int .i8 a0_21, .int .i8 a0_22, .int .i8 a0_23, .int .i8 a0_24, .int .i8 a0_25, .int .i8 a0_26, .int .i8 a0_27, .slice A0_28 l0_28.length c0_28] [] rfl s1 ?_ ?_ Tryd.underlying26 rfl (by exact (show (Tryd.prog.info? 26).map (·.size) = some 29 by kernel_rfl))
                · rfl
                · rfl
              rotate_left
              · simp only [Act.put, List.setIfInBounds_toArray, List.set_cons_zero, List.set_cons_succ, i64_w, i32_w, u8_w_]
                rfl
              refine one_ (i := 2) (N := some 44) #[true, true, true, false, false] rfl rfl (by kernel_rfl) (by decide) (fun K hK => ?_)
              refine goes_ Tryd.func20 (by kernel_rfl) rfl #[.agg #[.int .i8 a0_0, .int .i8 a0_1, .int .i8 a0_2, .int .i8 a0_3, .int .i8 a0_4, .int .i8 a0_5, .int .i8 a0_6, .int .i8 a0_7, .int .i8 a0_8, .int .i8 a0_9, .int .i8 a0_10, .int .i8 a0_11, .int .i8 a0_12, .int .i8 a0_13, .int .i8 a0_14, .int .i8 a0_15, .int .i8 a0_16, .int .i8 a0_17, .int .i8 a0_18, .int .i8 a0_19, .int .i8 a0_20, .int .i8 a0_21, .int .i8 a0_22, .int .i8 a0_23, .int .i8 a0_24, .int .i8 a0_25, .int .i8 a0_26, .int .i8 a0_27, .slice A0_28 l0_28.length c0_28]] (by rfl) rfl rfl (by (try simp only [List.map_toArray, List.map_cons, List.map_nil]); first | done | rfl | (simp only [List.length_drop, List.length_take]; rfl)) ?_
              with_reducible refine (laws_toFace.calls a0_0 a0_1 a0_2 a0_3 a0_4 a0_5 a0_6 a0_7 a0_8 a0_9 a0_10 a0_11 a0_12 a0_13 a0_14 a0_15 a0_16 a0_17 a0_18 a0_19 a0_20 a0_21 a0_22 a0_23 a0_24 a0_25 a0_26 a0_27 _ _ l0_28 t390 t391 t392 t393 t394 t395 t396 t397 t398 t399 t400 t401 t402 t403 t404 t405 t406 t407 t408 t409 t410 t411 t412 t413 t414 t415 t416 t417 t418 _ ?side1 ?side2 A26.out).mono ?_
              (case side1 => repeat (first | exact (Kd.C_below HR0_28.out HB.out) | (with_reducible refine Kd.C_alloc ?_ _) | (with_reducible refine Kd.C_drewN ?_ _) | (with_reducible refine Kd.C_drew ?_)))
              (case side2 => exact HC0_28.out)
              rintro e w34 ⟨v419, rfl, ho0, hb⟩
              refine ⟨_, rfl, ?_⟩
              have n0_ := Aside0.mk (Kd.R_elder' (by (with_reducible repeat (first | apply Kd.R_alloc | apply Kd.R_drewN | apply Kd.R_drew)); exact HO_388028.out) (Kd.R_base ho0) hb)
              have n1_ := Aside0.mk (Kd.R_lower (Kd.R_new' ho0 (Kd.R_lt (by (with_reducible repeat (first | apply Kd.R_alloc | apply Kd.R_drewN | apply Kd.R_drew)); exact HO_388028.out))) (below_size (by repeat (first | (with_reducible first | exact HB.out | apply below_alloc | apply pw_below_drewN | apply below_drew1 | refine below_set ?_ GE321.out | refine below_set ?_ GE387.out) | exact HB.out))))
              have n2_ := Aside0.mk (blk_below (g := gb321) (o := .cells #[.int .i8 a0_0, .int .i8 a0_1, .int .i8 a0_2, .int .i8 a0_3, .int .i8 a0_4, .int .i8 a0_5, .int .i8 a0_6, .int .i8 a0_7, .int .i8 a0_8, .int .i8 a0_9, .int .i8 a0_10, .int .i8 a0_11, .int .i8 a0_12, .int .i8 a0_13, .int .i8 a0_14, .int .i8 a0_15, .int .i8 a0_16, .int .i8 a0_17, .int .i8 a0_18, .int .i8 a0_19, .int .i8 a0_20, .int .i8 a0_21, .int .i8 a0_22, .int .i8 a0_23, .int .i8 a0_24, .int .i8 a0_25, .int .i8 a0_26, .int .i8 a0_27, .slice A0_28 l0_28.length c0_28] 26 (0, 0)) (by (with_reducible repeat (first | refine blk_drewN ?_ _ | refine blk_drew ?_ | refine blk_alloc ?_ _)); exact BK321.out) hb)
              have n3_ := Aside0.mk (blk_below (g := gb387) (o := .cells #[.int .i8 t356, .int .i8 t357, .int .i8 t358, .int .i8 t359, .int .i8 t360, .int .i8 t361, .int .i8 t362, .int .i8 t363, .int .i8 t364, .int .i8 t365, .int .i8 t366, .int .i8 t367, .int .i8 t368, .int .i8 t369, .int .i8 t370, .int .i8 t371, .int .i8 t372, .int .i8 t373, .int .i8 t374, .int .i8 t375, .int .i8 t376, .int .i8 t377, .int .i8 t378, .int .i8 t379, .int .i8 t380, .int .i8 t381, .int .i8 t382, .int .i8 t383, .slice Ao21 t384.length co21] 32 (0, 0)) (by (with_reducible repeat (first | refine blk_drewN ?_ _ | refine blk_drew ?_ | refine blk_alloc ?_ _)); exact BK387.out) hb)
              have n4_ := Aside0.mk (below_step (by repeat (first | (with_reducible first | exact HB.out | apply below_alloc | apply pw_below_drewN | apply below_drew1 | refine below_set ?_ GE321.out | refine below_set ?_ GE387.out) | exact HB.out)) hb)
              clear HO_388028
              clear BK321
              clear BK387
              clear HB
              have HO_388028 := n0_
              have HO420 := n1_
              have BK321 := n2_
              have BK387 := n3_
              have HB := n4_
              clear n0_ n1_ n2_ n3_ n4_
              (try clear hb)
              (try clear hb2)
              (try clear hk)
              (try clear hi)
              (try clear ho0)
              obtain ⟨Ao35, co35, eo35⟩ := Kd.R_slice HO420.out
              (first | subst eo35 | (injection eo35 with f1_ f2_ f3_; have f4_ := f1_.symm; have f5_ := f3_.symm; clear f1_ f2_ f3_; subst f4_; subst f5_))
              refine hK.out _ _ ⟨BK387.out, BK321.out⟩ (fun hHeld => ?_)
              clear hK K
              refine norm_ (a' := ?_) ?_ ?_
              rotate_left
              · show Act.put _ (some 44) _ = _
                simp only [Act.put, List.setIfInBounds_toArray, List.set_cons_zero, List.set_cons_succ, i64_w, i32_w, u8_w_]
                rfl
              refine one_ (i := 3) (N := some 45) #[true, true, true, true, false] rfl rfl (by kernel_rfl) (by decide) (fun K hK => ?_)
              refine goes_ Tryd.func22 (by kernel_rfl) rfl #[.agg #[.int .i8 t356, .int .i8 t357, .int .i8 t358, .int .i8 t359, .int .i8 t360, .int .i8 t361, .int .i8 t362, .int .i8 t363, .int .i8 t364, .int .i8 t365, .int .i8 t366, .int .i8 t367, .int .i8 t368, .int .i8 t369, .int .i8 t370, .int .i8 t371, .int .i8 t372, .int .i8 t373, .int .i8 t374, .int .i8 t375, .int .i8 t376, .int .i8 t377, .int .i8 t378, .int .i8 t379, .int .i8 t380, .int .i8 t381, .int .i8 t382, .int .i8 t383, .slice Ao21 t384.length co21], .agg #[.int .i8 t390, .int .i8 t391, .int .i8 t392, .int .i8 t393, .int .i8 t394, .int .i8 t395, .int .i8 t396, .int .i8 t397, .int .i8 t398, .int .i8 t399, .int .i8 t400, .int .i8 t401, .int .i8 t402, .int .i8 t403, .int .i8 t404, .int .i8 t405, .int .i8 t406, .int .i8 t407, .int .i8 t408, .int .i8 t409, .int .i8 t410, .int .i8 t411, .int .i8 t412, .int .i8 t413, .int .i8 t414, .int .i8 t415, .int .i8 t416, .int .i8 t417, .slice Ao35 t418.length co35]] (by rfl) rfl rfl (by (try simp only [List.map_toArray, List.map_cons, List.map_nil]); first | done | rfl | (simp only [List.length_drop, List.length_take]; rfl)) ?_
              with_reducible refine (laws_eqFace.calls kj12 t356 t357 t358 t359 t360 t361 t362 t363 t364 t365 t366 t367 t368 t369 t370 t371 t372 t373 t374 t375 t376 t377 t378 t379 t380 t381 t382 t383 _ _ t384 t390 t391 t392 t393 t394 t395 t396 t397 t398 t399 t400 t401 t402 t403 t404 t405 t406 t407 t408 t409 t410 t411 t412 t413 t414 t415 t416 t417 _ _ t418 false _ ?side1 ?side2 ?side3 ?side4 A27.out).mono ?_
              (case side1 => repeat (first | exact (Kd.R_reads' HO_388028.out).2.2 | (with_reducible refine Kd.C_alloc ?_ _) | (with_reducible refine Kd.C_drewN ?_ _) | (with_reducible refine Kd.C_drew ?_)))
              (case side2 => exact (Kd.R_reads' HO_388028.out).2.1)
              (case side3 => repeat (first | exact (Kd.R_reads' HO420.out).2.2 | (with_reducible refine Kd.C_alloc ?_ _) | (with_reducible refine Kd.C_drewN ?_ _) | (with_reducible refine Kd.C_drew ?_)))
              (case side4 => exact (Kd.R_reads' HO420.out).2.1)
              rintro e w36 ⟨rfl, hb⟩
              refine ⟨_, rfl, ?_⟩
              have n0_ := Aside0.mk (Kd.R_below (by (with_reducible repeat (first | apply Kd.R_alloc | apply Kd.R_drewN | apply Kd.R_drew)); exact HO_388028.out) hb)
              have n1_ := Aside0.mk (Kd.R_below (by (with_reducible repeat (first | apply Kd.R_alloc | apply Kd.R_drewN | apply Kd.R_drew)); exact HO420.out) hb)
              have n2_ := Aside0.mk (blk_below (g := gb321) (o := .cells #[.int .i8 a0_0, .int .i8 a0_1, .int .i8 a0_2, .int .i8 a0_3, .int .i8 a0_4, .int .i8 a0_5, .int .i8 a0_6, .int .i8 a0_7, .int .i8 a0_8, .int .i8 a0_9, .int .i8 a0_10, .int .i8 a0_11, .int .i8 a0_12, .int .i8 a0_13, .int .i8 a0_14, .int .i8 a0_15, .int .i8 a0_16, .int .i8 a0_17, .int .i8 a0_18, .int .i8 a0_19, .int .i8 a0_20, .int .i8 a0_21, .int .i8 a0_22, .int .i8 a0_23, .int .i8 a0_24, .int .i8 a0_25, .int .i8 a0_26, .int .i8 a0_27, .slice A0_28 l0_28.length c0_28] 26 (0, 0)) (by (with_reducible repeat (first | refine blk_drewN ?_ _ | refine blk_drew ?_ | refine blk_alloc ?_ _)); exact BK321.out) hb)
              have n3_ := Aside0.mk (blk_below (g := gb387) (o := .cells #[.int .i8 t356, .int .i8 t357, .int .i8 t358, .int .i8 t359, .int .i8 t360, .int .i8 t361, .int .i8 t362, .int .i8 t363, .int .i8 t364, .int .i8 t365, .int .i8 t366, .int .i8 t367, .int .i8 t368, .int .i8 t369, .int .i8 t370, .int .i8 t371, .int .i8 t372, .int .i8 t373, .int .i8 t374, .int .i8 t375, .int .i8 t376, .int .i8 t377, .int .i8 t378, .int .i8 t379, .int .i8 t380, .int .i8 t381, .int .i8 t382, .int .i8 t383, .slice Ao21 t384.length co21] 32 (0, 0)) (by (with_reducible repeat (first | refine blk_drewN ?_ _ | refine blk_drew ?_ | refine blk_alloc ?_ _)); exact BK387.out) hb)
              have n4_ := Aside0.mk (below_step (by repeat (first | (with_reducible first | exact HB.out | apply below_alloc | apply pw_below_drewN | apply below_drew1 | refine below_set ?_ GE321.out | refine below_set ?_ GE387.out) | exact HB.out)) hb)
              clear HO_388028
              clear HO420
              clear BK321
              clear BK387
              clear HB
              have HO_388028 := n0_
              have HO420 := n1_
              have BK321 := n2_
              have BK387 := n3_
              have HB := n4_
              clear n0_ n1_ n2_ n3_ n4_
              (try clear hb)
              (try clear hb2)
              (try clear hk)
              (try clear hi)
              refine hK.out _ _ ⟨BK387.out, BK321.out⟩ (fun hHeld => ?_)
              clear hK K
              refine norm_ (a' := ?_) ?_ ?_
              rotate_left
              · show Act.put _ (some 45) _ = _
                simp only [Act.put, List.setIfInBounds_toArray, List.set_cons_zero, List.set_cons_succ, i64_w, i32_w, u8_w_]
                rfl
              refine pure_ (i := 4) (N := some 46) (v := ?_) (a' := ?_) #[true, true, true, true, true] rfl rfl (by kernel_rfl) (fun _ _ _ h => h) (Or.inl ⟨by rfl, ?_⟩) ?_ ?_
              rotate_left
              · intro w'
                go_simp
                with_reducible rfl
              rotate_left
              · simp only [Act.put, List.setIfInBounds_toArray, List.set_cons_zero, List.set_cons_succ, i64_w, i32_w, u8_w_]
                rfl
              refine done_ (by kernel_rfl) ?_
              try go_wp2
              go_ret
              exact ⟨by first | rfl | (simp [errW_none, errW_some] <;> rfl) | (simp [*, errW_none, errW_some] <;> rfl), by repeat (first | (with_reducible first | exact HB.out | apply below_alloc | apply pw_below_drewN | apply below_drew1 | refine below_set ?_ GE321.out | refine below_set ?_ GE387.out) | exact HB.out)⟩

end Go.Proofs.YticjkfacdmmopaaDoor.Q


namespace Go.Proofs.YticjkfacdmmopaaDoor.Pure
open Go.RowKit Go.Proofs.YticjkfacdmmopaaDoor.Ext Go.Proofs.YticjkfacdmmopaaDoor.Q Go.Proofs.YticjkfacdmmopaaDoor.Txt Go.Proofs.YticjkfacdmmopaaDoor.Face Go.Proofs.YticjkfacdmmopaaDoorW.PrintWords Go.Proofs.YticjkfacdmmopaaDoorW.PrintLast Go.Proofs.YticjkfacdmmopaaDoorW.PrintMore
set_option linter.unusedVariables false
set_option linter.unusedSimpArgs false
set_option maxRecDepth 100000
theorem impl_LineWide_eq {L : List Int} {P : List Pr} (hl : L.length = 28) (hr : rngB L P = true) (s : ByteArray) {k : Nat} (hk : 140 < k) : impl_LineWide.f k (rd L 0) (rd L 1) (rd L 2) (rd L 3) (rd L 4) (rd L 5) (rd L 6) (rd L 7) (rd L 8) (rd L 9) (rd L 10) (rd L 11) (rd L 12) (rd L 13) (rd L 14) (rd L 15) (rd L 16) (rd L 17) (rd L 18) (rd L 19) (rd L 20) (rd L 21) (rd L 22) (rd L 23) (rd L 24) (rd L 25) (rd L 26) (rd L 27) P s = some (lineWideC L P s) := by
  unfold impl_LineWide.f lineWideC
  rw [lineCode_eq hl hr s (by omega), Option.bind_some]
  cases hf : (faceB L P && txt s.data.toList)
  · rfl
  · rw [Bool.and_eq_true] at hf
    rw [if_pos rfl, if_pos rfl, if_pos rfl, fwide_eq (faceOk hl hr hf.1) s (txt_size hf.2) (txt_ok hf.2) hk]
    rfl
theorem spec_LineWide_eq {L : List Int} {P : List Pr} (hl : L.length = 28) (hr : rngB L P = true) (s : ByteArray) (hs : s.size ≤ 1048576) {k : Nat} (hk : 1048577 < k) : spec_LineWide.f k (rd L 0) (rd L 1) (rd L 2) (rd L 3) (rd L 4) (rd L 5) (rd L 6) (rd L 7) (rd L 8) (rd L 9) (rd L 10) (rd L 11) (rd L 12) (rd L 13) (rd L 14) (rd L 15) (rd L 16) (rd L 17) (rd L 18) (rd L 19) (rd L 20) (rd L 21) (rd L 22) (rd L 23) (rd L 24) (rd L 25) (rd L 26) (rd L 27) P s = some (lineWideC L P s) := by
  unfold spec_LineWide.f lineWideC
  rw [asked_eq hl hr s hs true hk, Option.bind_some]
  cases hf : (faceB L P && txt s.data.toList)
  · rfl
  · rw [Bool.and_eq_true] at hf
    rw [if_pos rfl, if_pos rfl, if_pos rfl, if_pos rfl, words_eq s (txt_size hf.2) (by omega), Option.bind_some, line_eq (faceOk hl hr hf.1) s (txt_size hf.2) (txt_ok hf.2) (by omega)]
    rfl
theorem lineWide_law (L : List Int) (hl : L.length = 28) (lp : List LP) (hlp : lp.length ≤ 9223372036854775807) (hr : rngB L (lp.map toP) = true) (s : ByteArray) : ∃ k, laws_FnExactLineWide.f k (rd L 0) (rd L 1) (rd L 2) (rd L 3) (rd L 4) (rd L 5) (rd L 6) (rd L 7) (rd L 8) (rd L 9) (rd L 10) (rd L 11) (rd L 12) (rd L 13) (rd L 14) (rd L 15) (rd L 16) (rd L 17) (rd L 18) (rd L 19) (rd L 20) (rd L 21) (rd L 22) (rd L 23) (rd L 24) (rd L 25) (rd L 26) (rd L 27) lp s = some true := by
  obtain ⟨K, hK⟩ : ∃ K, K = 2000000 := ⟨_, rfl⟩
  refine ⟨K + 1, ?_⟩
  unfold laws_FnExactLineWide.f
  by_cases h1 : s.size > 1048576
  · rw [if_pos (by omega)]
  rw [if_neg (by omega), szFace_eq L lp hlp, Option.bind_some]
  by_cases h2 : 1048576 < lp.length
  · rw [if_pos h2, if_pos (by omega)]
  rw [if_neg h2, if_neg (by omega)]
  simp only [toFace_eq L lp (by omega), Option.bind_some, spec_LineWide_eq hl hr s (by omega : s.size ≤ 1048576) (by omega : 1048577 < K + 1), impl_LineWide_eq hl hr s (by omega : 140 < K + 1), if_true, bne_self_eq_false, laws_FnExactLineWide.j0, Bool.false_eq_true, if_false, eqFace_self L _ (size_le (by omega : lp.length ≤ 1048576)) (by omega : 1048577 < K)]
end Go.Proofs.YticjkfacdmmopaaDoor.Pure


namespace Go.Proofs.YticjkfacdmmopaaDoor.Pure
open Go.RowKit Go.Proofs.YticjkfacdmmopaaDoor.Ext Go.Proofs.YticjkfacdmmopaaDoor.Q Go.Proofs.YticjkfacdmmopaaDoor.Txt Go.Proofs.YticjkfacdmmopaaDoor.Face Go.Proofs.YticjkfacdmmopaaDoorW.PrintWords Go.Proofs.YticjkfacdmmopaaDoorW.PrintLast Go.Proofs.YticjkfacdmmopaaDoorW.PrintMore
set_option maxRecDepth 100000
theorem faceV_all (L : List Int) (hl : L.length = 28) (A : Option Addr) (n c : Nat) : faceV L A n c = #[.int .i8 (rd L 0), .int .i8 (rd L 1), .int .i8 (rd L 2), .int .i8 (rd L 3), .int .i8 (rd L 4), .int .i8 (rd L 5), .int .i8 (rd L 6), .int .i8 (rd L 7), .int .i8 (rd L 8), .int .i8 (rd L 9), .int .i8 (rd L 10), .int .i8 (rd L 11), .int .i8 (rd L 12), .int .i8 (rd L 13), .int .i8 (rd L 14), .int .i8 (rd L 15), .int .i8 (rd L 16), .int .i8 (rd L 17), .int .i8 (rd L 18), .int .i8 (rd L 19), .int .i8 (rd L 20), .int .i8 (rd L 21), .int .i8 (rd L 22), .int .i8 (rd L 23), .int .i8 (rd L 24), .int .i8 (rd L 25), .int .i8 (rd L 26), .int .i8 (rd L 27), .slice A n c] := by
  have e : faceV [rd L 0, rd L 1, rd L 2, rd L 3, rd L 4, rd L 5, rd L 6, rd L 7, rd L 8, rd L 9, rd L 10, rd L 11, rd L 12, rd L 13, rd L 14, rd L 15, rd L 16, rd L 17, rd L 18, rd L 19, rd L 20, rd L 21, rd L 22, rd L 23, rd L 24, rd L 25, rd L 26, rd L 27] A n c = #[.int .i8 (rd L 0), .int .i8 (rd L 1), .int .i8 (rd L 2), .int .i8 (rd L 3), .int .i8 (rd L 4), .int .i8 (rd L 5), .int .i8 (rd L 6), .int .i8 (rd L 7), .int .i8 (rd L 8), .int .i8 (rd L 9), .int .i8 (rd L 10), .int .i8 (rd L 11), .int .i8 (rd L 12), .int .i8 (rd L 13), .int .i8 (rd L 14), .int .i8 (rd L 15), .int .i8 (rd L 16), .int .i8 (rd L 17), .int .i8 (rd L 18), .int .i8 (rd L 19), .int .i8 (rd L 20), .int .i8 (rd L 21), .int .i8 (rd L 22), .int .i8 (rd L 23), .int .i8 (rd L 24), .int .i8 (rd L 25), .int .i8 (rd L 26), .int .i8 (rd L 27), .slice A n c] := rfl
  rwa [all28 L hl] at e
theorem rng_of {L : List Int} {P : List LP} (hb : ∀ y ∈ L, -128 ≤ y ∧ y ≤ 127) (hp : ∀ p ∈ P, (0 ≤ p.f0 ∧ p.f0 ≤ 255) ∧ (0 ≤ p.f1 ∧ p.f1 ≤ 255) ∧ (-128 ≤ p.f2 ∧ p.f2 ≤ 127)) : rngB L (P.map toP) = true := by
  unfold rngB
  rw [Bool.and_eq_true, List.all_eq_true, List.all_eq_true]
  refine ⟨fun y hy => inB_iff.2 (hb y hy), fun p hq => ?_⟩
  rw [List.mem_map] at hq
  obtain ⟨q, hq, rfl⟩ := hq
  have h := hp q hq
  rw [Bool.and_eq_true, Bool.and_eq_true]
  exact ⟨⟨inB_iff.2 h.1, inB_iff.2 h.2.1⟩, inB_iff.2 h.2.2⟩
end Go.Proofs.YticjkfacdmmopaaDoor.Pure


namespace Go.Proofs.YticjkfacdmmopaaDoor.Pure
open Go.RowKit Go.Proofs.YticjkfacdmmopaaDoor.Ext Go.Proofs.YticjkfacdmmopaaDoor.Q Go.Proofs.YticjkfacdmmopaaDoor.Txt Go.Proofs.YticjkfacdmmopaaDoor.Face Go.Proofs.YticjkfacdmmopaaDoorW.PrintWords Go.Proofs.YticjkfacdmmopaaDoorW.PrintLast Go.Proofs.YticjkfacdmmopaaDoorW.PrintMore
set_option maxRecDepth 100000
theorem lineWide_walk (L : List Int) (hl : L.length = 28) (hb : ∀ y ∈ L, -128 ≤ y ∧ y ≤ 127) (A : Option Addr) (c : Nat) (P : List LP) (hc : P.length ≤ c) (hm : c ≤ maxLen) (hp : ∀ p ∈ P, (0 ≤ p.f0 ∧ p.f0 ≤ 255) ∧ (0 ≤ p.f1 ∧ p.f1 ≤ 255) ∧ (-128 ≤ p.f2 ∧ p.f2 ≤ 127)) (s : ByteArray) (w : World) (hr : Kd.C kLP w A P.length P) (hM : GlobM w) :
    Calls Tryd.prog 4 #[.agg (faceV L A P.length c), .string s] w fun e w' => e = .returned (.bool true) ∧ Below w.heap.size w w' := by
  obtain ⟨k, hk⟩ := lineWide_law L hl P (by unfold maxLen at hm; omega) (rng_of hb hp) s
  have h := laws_FnExactLineWide.calls k (rd L 0) (rd L 1) (rd L 2) (rd L 3) (rd L 4) (rd L 5) (rd L 6) (rd L 7) (rd L 8) (rd L 9) (rd L 10) (rd L 11) (rd L 12) (rd L 13) (rd L 14) (rd L 15) (rd L 16) (rd L 17) (rd L 18) (rd L 19) (rd L 20) (rd L 21) (rd L 22) (rd L 23) (rd L 24) (rd L 25) (rd L 26) (rd L 27) A c P s true w hr hc hM hk
  rw [faceV_all L hl A P.length c]
  exact h
end Go.Proofs.YticjkfacdmmopaaDoor.Pure


namespace Go.Proofs.YticjkfacdmmopaaDoor.Open
open Go.ChangeShapes Go.WideShapes Go.ChangeAt Go.RowKit Go.Deep Go.Proofs.YticjkfacdmmopaaDoor.Ext Go.Proofs.YticjkfacdmmopaaDoor.Face Go.Proofs.YticjkfacdmmopaaDoorW.PrintWords
set_option linter.unusedVariables false
set_option linter.unusedSimpArgs false
variable {H : Type} {enc : TypeId × Value → H} {P : Program} {w : World} {spare : Nat → Bool} {held : Bool} {t : TypeId}
instance : Inhabited LP := ⟨⟨0, 0, 0⟩⟩
/-- A row of pairs. -/
theorem open_pairs {t e : TypeId} {f0 f1 f2 : Field} {fuel : Nat} {cs : List Value} {x : DataW H × List MemPlace} (ht : P.underlying t = some (.slice e)) (he : P.underlying e = some (.struct #[f0, f1, f2])) (ce : P.cellsOf e = 3) (o0 : f0.offset = 0) (o1 : f1.offset = 1) (o2 : f2.offset = 2) (c0 : P.cellsOf f0.type = 1) (c1 : P.cellsOf f1.type = 1) (c2 : P.cellsOf f2.type = 1)
    (u0 : P.underlying f0.type = some (.int .u8)) (u1 : P.underlying f1.type = some (.int .u8)) (u2 : P.underlying f2.type = some (.int .i8))
    (h : DataW.trod enc P w 0 spare held fuel t cs = some x) :
    ∃ (A : Option Addr) (c : Nat) (ps : List LP), cs = [.slice A ps.length c] ∧ ps.length ≤ c ∧ c ≤ maxLen ∧ Kd.C kLP w A ps.length ps ∧ ∀ p ∈ ps, (0 ≤ p.f0 ∧ p.f0 ≤ 255) ∧ (0 ≤ p.f1 ∧ p.f1 ≤ 255) ∧ (-128 ≤ p.f2 ∧ p.f2 ≤ 127) := by
  rcases open_slice ht h with ⟨rfl, _⟩ | ⟨a, len, cap, m, n, D, Pl, rfl, hb, hl, hm, hmm, rfl, hx⟩
  · exact ⟨none, 0, [], rfl, Nat.le_refl _, Nat.zero_le _, ⟨rfl, by simp, fun hp => absurd hp (by simp)⟩, by simp⟩
  have hlm : len ≤ m := by rw [hmm]; split <;> omega
  have each : ∀ i, i < len → ∃ q : LP, (w.cell? (a.add (i * 3)) = some (.int .u8 q.f0) ∧ w.cell? (a.add (i * 3 + 1)) = some (.int .u8 q.f1) ∧ w.cell? (a.add (i * 3 + 2)) = some (.int .i8 q.f2)) ∧ (0 ≤ q.f0 ∧ q.f0 ≤ 255) ∧ (0 ≤ q.f1 ∧ q.f1 ≤ 255) ∧ (-128 ≤ q.f2 ∧ q.f2 ≤ 127) := by
    intro i hi
    obtain ⟨cs', h1, h2⟩ := hx i (by omega)
    rw [ce] at h1
    obtain ⟨_, hlen, hcell⟩ := World.cells?_some h1
    obtain ⟨xs, k, hk, hxy, _, hxl, hf⟩ := DataW.trod_struct he h2
    match xs, hxl, cs', hlen with
    | [y0, y1, y2], _, [v0, v1, v2], _ =>
      have g0 := hf 0 f0 rfl
      have g1 := hf 1 f1 rfl
      have g2 := hf 2 f2 rfl
      simp [o0, o1, o2, c0, c1, c2] at g0 g1 g2
      obtain ⟨z0, q0, _, w0⟩ := DataW.trod_int u0 g0
      obtain ⟨z1, q1, _, w1⟩ := DataW.trod_int u1 g1
      obtain ⟨z2, q2, _, w2⟩ := DataW.trod_int u2 g2
      obtain rfl : v0 = .int .u8 z0 := by simpa using q0
      obtain rfl : v1 = .int .u8 z1 := by simpa using q1
      obtain rfl : v2 = .int .i8 z2 := by simpa using q2
      have e0 := hcell 0 (by omega)
      have e1 := hcell 1 (by omega)
      have e2 := hcell 2 (by omega)
      rw [Deep.add_add] at e0 e1 e2
      exact ⟨⟨z0, z1, z2⟩, ⟨by simpa using e0, by simpa using e1, by simpa using e2⟩, wf_u8 w0, wf_u8 w1, wf_i8 w2⟩
  obtain ⟨q, hq⟩ := choose_lt each
  refine ⟨some a, cap, (List.range len).map q, by simp, by simpa using hl, hm, ⟨by simp, by simp; unfold maxLen at hm; omega, fun hp => ⟨a, rfl, fun j p hj => ?_⟩⟩, ?_⟩
  · obtain ⟨hlt, rfl⟩ := List.getElem?_eq_some_iff.1 hj
    have hjl : j < len := by simpa using hlt
    obtain ⟨⟨h0, h1, h2⟩, _⟩ := hq j hjl
    refine ⟨[.int .u8 (q j).f0, .int .u8 (q j).f1, .int .i8 (q j).f2], rfl, by simpa using kLP_mk w (q j), fun i u hi => ?_⟩
    match i, hi with
    | 0, hi => simp at hi; subst hi; exact h0
    | 1, hi => simp at hi; subst hi; exact h1
    | 2, hi => simp at hi; subst hi; exact h2
  · intro p hp
    rw [List.mem_map] at hp
    obtain ⟨j, hj, rfl⟩ := hp
    exact (hq j (by simpa using hj)).2
/-- A face. -/
theorem open_face {r : Reach} {b0 : Nat} {f0 f1 f2 f3 : Field} {g0 g1 g2 : Field} {e ep : TypeId} {v : Value} {d : DataW H} {p : List MemPlace} (ht : P.underlying t = some (.struct #[f0, f1, f2, f3])) (h0 : P.underlying f0.type = some (.array 26 e)) (he : P.underlying e = some (.int .i8))
    (hc : P.cellsOf e = 1) (hn : P.cellsOf f0.type = 26) (h1 : P.underlying f1.type = some (.int .i8)) (h2 : P.underlying f2.type = some (.int .i8)) (h3 : P.underlying f3.type = some (.slice ep)) (o0 : f0.offset = 0) (o1 : f1.offset = 26) (o2 : f2.offset = 27) (o3 : f3.offset = 28)
    (c1 : P.cellsOf f1.type = 1) (c2 : P.cellsOf f2.type = 1) (c3 : P.cellsOf f3.type = 1) (hC : P.cellsOf t = 29)
    (hep : P.underlying ep = some (.struct #[g0, g1, g2])) (ce : P.cellsOf ep = 3) (p0 : g0.offset = 0) (p1 : g1.offset = 1) (p2 : g2.offset = 2) (d0 : P.cellsOf g0.type = 1) (d1 : P.cellsOf g1.type = 1) (d2 : P.cellsOf g2.type = 1)
    (u0 : P.underlying g0.type = some (.int .u8)) (u1 : P.underlying g1.type = some (.int .u8)) (u2 : P.underlying g2.type = some (.int .i8))
    (hv : Value.okWide P w r b0 t v) (h : DataW.Trod enc P w 0 spare held t v d p) :
    ∃ (l : List Int) (A : Option Addr) (c : Nat) (ps : List LP), v = .agg (faceV l A ps.length c) ∧ l.length = 28 ∧ (∀ y ∈ l, -128 ≤ y ∧ y ≤ 127) ∧ ps.length ≤ c ∧ c ≤ maxLen ∧ Kd.C kLP w A ps.length ps ∧ ∀ p ∈ ps, (0 ≤ p.f0 ∧ p.f0 ≤ 255) ∧ (0 ≤ p.f1 ∧ p.f1 ≤ 255) ∧ (-128 ≤ p.f2 ∧ p.f2 ≤ 127) := by
  obtain ⟨cs, rfl, _⟩ := okWide_struct ht hv
  obtain ⟨fuel, hf⟩ := h
  obtain ⟨xs, m, _, _, hl, hxs, hi⟩ := DataW.trod_struct ht hf
  have hlen : xs.length = 4 := by simpa using hxs
  rw [hC] at hl
  have get : ∀ i, i < 4 → ∃ z, xs[i]? = some z := fun i hi' => ⟨xs[i]'(by omega), List.getElem?_eq_getElem (by omega)⟩
  have e0 := hi 0 f0 rfl
  have e1 := hi 1 f1 rfl
  have e2 := hi 2 f2 rfl
  have e3 := hi 3 f3 rfl
  obtain ⟨z0, hz0⟩ := get 0 (by omega)
  obtain ⟨z1, hz1⟩ := get 1 (by omega)
  obtain ⟨z2, hz2⟩ := get 2 (by omega)
  obtain ⟨z3, hz3⟩ := get 3 (by omega)
  rw [hz0, o0, hn, List.drop_zero] at e0
  rw [hz1, o1, c1] at e1
  rw [hz2, o2, c2] at e2
  rw [hz3, o3, c3] at e3
  obtain ⟨l, q1, q2, q3⟩ := arr_list h0 he hc hn e0
  obtain ⟨a, a1, _, a3⟩ := DataW.trod_int h1 e1
  obtain ⟨b, b1, _, b3⟩ := DataW.trod_int h2 e2
  obtain ⟨A, c, ps, s1, s2, s3, s4, s5⟩ := open_pairs h3 hep ce p0 p1 p2 d0 d1 d2 u0 u1 u2 e3
  refine ⟨l ++ [a, b], A, c, ps, ?_, by simp [q2], ?_, s2, s3, s4, s5⟩
  · have e : nums .i8 (l ++ [a, b]) ++ [.slice A ps.length c] = (Value.agg cs).cells.toList := by
      rw [nums_append, ← q1]
      have : nums .i8 [a, b] = [.int .i8 a] ++ [.int .i8 b] := rfl
      rw [this, ← a1, ← b1, ← s1]
      generalize (Value.agg cs).cells.toList = L at *
      apply List.ext_getElem?
      intro i
      simp only [List.getElem?_append, List.length_append, List.length_take, List.length_drop, List.getElem?_take, List.getElem?_drop]
      by_cases h1 : i < 26
      · rw [if_pos (by omega), if_pos (by omega), if_pos h1]
      · by_cases h2 : i = 26
        · subst h2
          rw [if_pos (by omega), if_neg (by omega), if_pos (by omega), if_pos (by omega)]
          congr 1; omega
        · by_cases h3 : i = 27
          · subst h3
            rw [if_pos (by omega), if_neg (by omega), if_neg (by omega), if_pos (by omega)]
            congr 1; omega
          · rw [if_neg (by omega)]
            by_cases h4 : i = 28
            · subst h4
              rw [if_pos (by omega)]
              congr 1; omega
            · rw [if_neg (by omega), List.getElem?_eq_none (by omega)]
    unfold faceV
    congr 1
    apply Array.toList_inj.1
    rw [Array.toList_push]
    show cs.toList = nums .i8 (l ++ [a, b]) ++ _
    rw [e]
    simp [Value.cells]
  · intro y hy
    rw [List.mem_append] at hy
    rcases hy with hy | hy
    · exact wf_i8 (q3 y hy)
    · simp at hy
      rcases hy with rfl | rfl
      · exact wf_i8 a3
      · exact wf_i8 b3
end Go.Proofs.YticjkfacdmmopaaDoor.Open

