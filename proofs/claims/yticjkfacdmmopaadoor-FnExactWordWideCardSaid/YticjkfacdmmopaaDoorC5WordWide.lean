/- Contracts and plain laws of functions of the given program; no conditions beside those in the theorems. -/
import Derived.Test.YticjkfacdmmopaaDoorC2WordWide
import Derived.Test.YticjkfacdmmopaaDoorC4WordWide
import Derived.Test.YticjkfacdmmopaaDoorC3WordWide
namespace Go.Proofs.YticjkfacdmmopaaDoor.Ext
end Go.Proofs.YticjkfacdmmopaaDoor.Ext
namespace Go.Proofs.YticjkfacdmmopaaDoor.Q
open Go.Proofs.YticjkfacdmmopaaDoor.Ext
open Go.RowKit Go.Proofs.YticjkfacdmmopaaDoorW.PrintWords Go.Proofs.YticjkfacdmmopaaDoorW.PrintLast Go.Proofs.YticjkfacdmmopaaDoorW.PrintMore
attribute [local go_sem] max2_int min2_int max_two min_two max_three min_three max_four min_four   -- for this text's walks alone
set_option linter.unusedVariables false
set_option linter.unusedSimpArgs false

/-! ### laws_eqPairS: function 72 -/
def laws_eqPairS.l0 : Nat → List (S137) → List (S137) → Int → Option (Bool)
  | 0, _, _, _ => none
  | k + 1, x0, x1, x5 => if x5 < (x0.length : Int) then (if 0 ≤ x5 then (if x5 < (x1.length : Int) then ((laws_eqPair.f ((rd_T137 x0 x5).f0) ((rd_T137 x0 x5).f1) ((rd_T137 x0 x5).f2) ((rd_T137 x1 x5).f0) ((rd_T137 x1 x5).f1) ((rd_T137 x1 x5).f2)).bind fun t182 => (if t182 = true then (laws_eqPairS.l0 k x0 x1 (wrap64 (x5 + 1))) else (some false))) else (none)) else (none)) else (some true)
def laws_eqPairS.f (k : Nat) (l0 : List (S137)) (l1 : List (S137)) : Option (Bool) := if (l0.length : Int) = (l1.length : Int) then (laws_eqPairS.l0 k l0 l1 0) else (some false)
theorem laws_eqPairS.mono_l : ∀ k, (∀ y0 y1 y2, LeO (laws_eqPairS.l0 k y0 y1 y2) (laws_eqPairS.l0 (k + 1) y0 y1 y2))
  | 0 => fun _ _ _ r h => by simp [laws_eqPairS.l0] at h
  | k + 1 => by
    have ih0 := laws_eqPairS.mono_l k
    · intro y0 y1 y2
      unfold laws_eqPairS.l0
      repeat' first
      | (with_reducible exact ih0 _ _ _)
      | (with_reducible exact LeO.refl _)
      | (with_reducible exact LeO.none _)
      | (with_reducible refine LeO.ite ?_ ?_)
      | (with_reducible refine LeO.bind ?_ (fun _ => ?_))
      | exact ih0 _ _ _
      | exact LeO.none _
      | refine LeO.ite ?_ ?_
      | refine LeO.bind ?_ (fun _ => ?_)
theorem laws_eqPairS.mono : ∀ a0 a1 k, LeO (laws_eqPairS.f k a0 a1) (laws_eqPairS.f (k + 1) a0 a1) := by
  intro a0 a1 k
  have ih0 := laws_eqPairS.mono_l k
  unfold laws_eqPairS.f
  repeat' first
      | (with_reducible exact ih0 _ _ _)
      | (with_reducible exact LeO.refl _)
      | (with_reducible exact LeO.none _)
      | (with_reducible refine LeO.ite ?_ ?_)
      | (with_reducible refine LeO.bind ?_ (fun _ => ?_))
      | exact ih0 _ _ _
      | exact LeO.none _
      | refine LeO.ite ?_ ?_
      | refine LeO.bind ?_ (fun _ => ?_)
def laws_eqPairS.T6 : Bool × List (List Nat × List Nat) := (true, [([], []), ([], []), ([0, 1], [0, 1]), ([2], [2]), ([], []), ([], []), ([4, 5], [4, 5]), ([6], [6]), ([3, 7], [3, 7]), ([8], [8])])
def laws_eqPairS.B6 : List Nat := [0, 0, 3, 7, 0, 0, 48, 112, 255, 511]
theorem laws_eqPairS.tab6 : rtab .any (opsOf Tryd.f72 6) = laws_eqPairS.T6 := by kernel_rfl
theorem laws_eqPairS.bits6 : waitsOk laws_eqPairS.T6.2 laws_eqPairS.B6 = true := by kernel_rfl
set_option maxHeartbeats 8000000 in
set_option maxRecDepth 100000 in
theorem laws_eqPairS.calls (k : Nat) (A0 : Option Addr) (c0 : Nat) (l0 : List (S137)) (A1 : Option Addr) (c1 : Nat) (l1 : List (S137)) (r : Bool) (w : World) (hr0 : Kd.C k137 w A0 l0.length l0) (hc0 : l0.length ≤ c0) (hr1 : Kd.C k137 w A1 l1.length l1) (hc1 : l1.length ≤ c1) (h : laws_eqPairS.f k l0 l1 = some r) :
    Calls Tryd.prog 72 #[.slice A0 l0.length c0, .slice A1 l1.length c1] w fun e w' => e = .returned (.bool r) ∧ Below w.heap.size w w' := by
  have hu137 := Tryd.underlying137
  have HR0 := Aside0.mk hr0
  have HC0 := Aside0.mk hc0
  clear hr0 hc0
  have HR1 := Aside0.mk hr1
  have HC1 := Aside0.mk hc1
  clear hr1 hc1
  have HB := Aside0.mk (Below.refl w.heap.size w)
  have H : (if (l0.length : Int) = (l1.length : Int) then (laws_eqPairS.l0 k l0 l1 0) else (some false)) = some r := h
  clear h
  by_cases c3 : (l0.length : Int) = (l1.length : Int)
  · rw [if_pos c3] at H
    have c3b0 : ((l0.length : Int) == (l1.length : Int)) = true := beq_iff_eq.mpr c3
    have c3b1 : ((l0.length : Int) != (l1.length : Int)) = false := bne_eq_false_iff_eq.mpr c3
    have c3b2 : (l0.length == l1.length) = true := by first | simpa using c3 | (simp at c3 ⊢; omega)
    clear c3
    have H' := Aside0.mk H
    clear H
    go_enter Tryd.func72, Tryd.ntmps72
    go_wp2
    go_loopg [5] k (fun kq v5 w' => ∃ (x5_1 : Int), v5 = .int .i64 x5_1 ∧ Aside0 (laws_eqPairS.l0 kq l0 l1 x5_1 = some r) ∧ Aside0 (kq ≤ k) ∧ Aside0 (Below w.heap.size w w'))
    case atStart => exact ⟨(0), (by first | rfl | (simp; done) | (simp [*]; done)), H', ⟨Nat.le_refl _⟩, ⟨by repeat (first | (with_reducible first | exact HB.out | apply below_alloc | apply pw_below_drewN | apply below_drew1) | exact HB.out)⟩⟩
    case round =>
      clear H'
      try clear c1
      try clear p2
      try clear c3
      try clear c3b0
      try clear c3b1
      try clear c3b2
      obtain ⟨x5_1, rfl, HA, HK1, HB⟩ := hrel
      cases gk with
      | zero => exact absurd HA.out (by simp [laws_eqPairS.l0])
      | succ k1 =>
        have H := HA.out
        clear HA
        simp only [laws_eqPairS.l0] at H
        by_cases c4 : x5_1 < (l0.length : Int)
        · rw [if_pos c4] at H
          have c4b0 : decide (x5_1 < (l0.length : Int)) = true := decide_eq_true c4
          clear c4
          by_cases c5 : 0 ≤ x5_1
          · rw [if_pos c5] at H
            have c5b0 : decide (0 ≤ x5_1) = true := decide_eq_true c5
            clear c5
            by_cases c6 : x5_1 < (l1.length : Int)
            · rw [if_pos c6] at H
              have c6b0 : decide (x5_1 < (l1.length : Int)) = true := decide_eq_true c6
              clear c6
              replace H := Option.bind_eq_some_iff.mp H
              obtain ⟨t182, A70, H⟩ := H
              replace H : (if t182 = true then (laws_eqPairS.l0 k1 l0 l1 (wrap64 (x5_1 + 1))) else (some false)) = some r := H
              have A7 := Aside0.mk A70
              clear A70
              by_cases c8 : t182 = true
              · subst c8
                have H1 : (laws_eqPairS.l0 k1 l0 l1 (wrap64 (x5_1 + 1))) = some r := by rw [if_pos rfl] at H; exact H
                clear H
                have H := H1
                clear H1
                have H' := Aside0.mk H
                clear H
                try go_wp2
                have n0_ := Aside0.mk (below_drew1 HB.out)
                clear HB
                have HB := n0_
                clear n0_
                have p180 : 0 ≤ (x5_1 : Int) := of_decide_eq_true (by first | (with_reducible assumption) | assumption)
                have q180 : x5_1 < (l0.length : Int) := of_decide_eq_true (by first | (with_reducible assumption) | assumption)
                obtain ⟨ad180, e180, hx180_0, hx180_1, hx180_2⟩ := at_T137 HR0.out x5_1 p180 q180
                have hw180_2 := hx180_2
                have hw180_1 := hx180_1
                have hw180_0 := hx180_0
                cases e180
                replace hx180_0 := (HB.out.cell (World.block_lt_of_cell? w _ hx180_0)).trans hx180_0
                replace hx180_1 := (HB.out.cell (World.block_lt_of_cell? w _ hx180_1)).trans hx180_1
                replace hx180_2 := (HB.out.cell (World.block_lt_of_cell? w _ hx180_2)).trans hx180_2
                replace p180 := eq_true p180
                replace q180 := eq_true q180
                have p181 : 0 ≤ (x5_1 : Int) := of_decide_eq_true (by first | (with_reducible assumption) | assumption)
                have q181 : x5_1 < (l1.length : Int) := of_decide_eq_true (by first | (with_reducible assumption) | assumption)
                obtain ⟨ad181, e181, hx181_0, hx181_1, hx181_2⟩ := at_T137 HR1.out x5_1 p181 q181
                have hw181_2 := hx181_2
                have hw181_1 := hx181_1
                have hw181_0 := hx181_0
                cases e181
                replace hx181_0 := (HB.out.cell (World.block_lt_of_cell? w _ hx181_0)).trans hx181_0
                replace hx181_1 := (HB.out.cell (World.block_lt_of_cell? w _ hx181_1)).trans hx181_1
                replace hx181_2 := (HB.out.cell (World.block_lt_of_cell? w _ hx181_2)).trans hx181_2
                replace p181 := eq_true p181
                replace q181 := eq_true q181
                refine start_ (n := 10) (S := fun w' => w'.cell? (ad180.add ((x5_1).toNat * 3)) = some (.int .u8 ((rd_T137 l0 x5_1).f0)) ∧ w'.cell? ⟨(ad180.add ((x5_1).toNat * 3)).block, (ad180.add ((x5_1).toNat * 3)).off + 1, none⟩ = some (.int .u8 ((rd_T137 l0 x5_1).f1)) ∧ w'.cell? ⟨(ad180.add ((x5_1).toNat * 3)).block, (ad180.add ((x5_1).toNat * 3)).off + 2, none⟩ = some (.int .i8 ((rd_T137 l0 x5_1).f2)) ∧ w'.cell? (ad181.add ((x5_1).toNat * 3)) = some (.int .u8 ((rd_T137 l1 x5_1).f0)) ∧ w'.cell? ⟨(ad181.add ((x5_1).toNat * 3)).block, (ad181.add ((x5_1).toNat * 3)).off + 1, none⟩ = some (.int .u8 ((rd_T137 l1 x5_1).f1)) ∧ w'.cell? ⟨(ad181.add ((x5_1).toNat * 3)).block, (ad181.add ((x5_1).toNat * 3)).off + 2, none⟩ = some (.int .i8 ((rd_T137 l1 x5_1).f2))) (ds := []) #[false, false, false, false, false, false, false, false, false, false] (by kernel_rfl) rfl rfl ⟨((HB.out.cell (World.block_lt_of_cell? w _ hw180_0)).trans hw180_0), ((HB.out.cell (World.block_lt_of_cell? w _ hw180_1)).trans hw180_1), ((HB.out.cell (World.block_lt_of_cell? w _ hw180_2)).trans hw180_2), ((HB.out.cell (World.block_lt_of_cell? w _ hw181_0)).trans hw181_0), ((HB.out.cell (World.block_lt_of_cell? w _ hw181_1)).trans hw181_1), ((HB.out.cell (World.block_lt_of_cell? w _ hw181_2)).trans hw181_2)⟩ (fun hHeld => ?_); refine with_tabW laws_eqPairS.tab6 laws_eqPairS.bits6 (fun HT_ HW_ => ?_)
                generalize wr.drew = w9 at HB hx180_0 hx180_1 hx180_2 hx181_0 hx181_1 hx181_2 hHeld ⊢
                refine pure_ (i := 0) (N := some 17) (v := ?_) (a' := ?_) #[true, false, false, false, false, false, false, false, false, false] rfl rfl (any_of HT_.out (by kernel_rfl)) (fun _ _ _ h => h) (Or.inl ⟨by rfl, ?_⟩) ?_ ?_
                rotate_left
                · intro w'
                  go_simp
                  with_reducible rfl
                rotate_left
                · simp only [Act.put, List.setIfInBounds_toArray, List.set_cons_zero, List.set_cons_succ, i64_w, i32_w, u8_w_]
                  rfl
                refine pure_ (i := 1) (N := some 18) (v := ?_) (a' := ?_) #[true, true, false, false, false, false, false, false, false, false] rfl rfl (any_of HT_.out (by kernel_rfl)) (fun _ _ _ h => h) (Or.inl ⟨by rfl, ?_⟩) ?_ ?_
                rotate_left
                · intro w'
                  go_simp
                  with_reducible rfl
                rotate_left
                · simp only [Act.put, List.setIfInBounds_toArray, List.set_cons_zero, List.set_cons_succ, i64_w, i32_w, u8_w_]
                  rfl
                refine pure_ (i := 2) (N := some 19) (v := ?_) (a' := ?_) #[true, true, true, false, false, false, false, false, false, false] rfl rfl (any_of HT_.out (by kernel_rfl)) (fun _ _ _ h => h) (Or.inl ⟨by rfl, ?_⟩) ?_ ?_
                rotate_left
                · intro w'
                  go_simp
                  with_reducible rfl
                rotate_left
                · simp only [Act.put, List.setIfInBounds_toArray, List.set_cons_zero, List.set_cons_succ, i64_w, i32_w, u8_w_]
                  rfl
                refine pure_ (i := 4) (N := some 21) (v := ?_) (a' := ?_) #[true, true, true, false, true, false, false, false, false, false] rfl rfl (any_of HT_.out (by kernel_rfl)) (fun _ _ _ h => h) (Or.inl ⟨by rfl, ?_⟩) ?_ ?_
                rotate_left
                · intro w'
                  go_simp
                  with_reducible rfl
                rotate_left
                · simp only [Act.put, List.setIfInBounds_toArray, List.set_cons_zero, List.set_cons_succ, i64_w, i32_w, u8_w_]
                  rfl
                refine pure_ (i := 5) (N := some 22) (v := ?_) (a' := ?_) #[true, true, true, false, true, true, false, false, false, false] rfl rfl (any_of HT_.out (by kernel_rfl)) (fun _ _ _ h => h) (Or.inl ⟨by rfl, ?_⟩) ?_ ?_
                rotate_left
                · intro w'
                  go_simp
                  with_reducible rfl
                rotate_left
                · simp only [Act.put, List.setIfInBounds_toArray, List.set_cons_zero, List.set_cons_succ, i64_w, i32_w, u8_w_]
                  rfl
                refine pure_ (i := 6) (N := some 23) (v := ?_) (a' := ?_) #[true, true, true, false, true, true, true, false, false, false] rfl rfl (any_of HT_.out (by kernel_rfl)) (fun _ _ _ h => h) (Or.inl ⟨by rfl, ?_⟩) ?_ ?_
                rotate_left
                · intro w'
                  go_simp
                  with_reducible rfl
                rotate_left
                · simp only [Act.put, List.setIfInBounds_toArray, List.set_cons_zero, List.set_cons_succ, i64_w, i32_w, u8_w_]
                  rfl
                refine take_ (i := 3) (N := some 20) (v := ?_) (a' := ?_) #[true, true, true, true, true, true, true, false, false, false] rfl rfl (take_ofW HT_.out HW_.out (by kernel_rfl)) (fun _ _ _ h => h) (Or.inl ⟨by rfl, ?_⟩) hHeld ?_ ?_
                rotate_left
                · rintro w' ⟨s0, s1, s2, s3, s4, s5⟩
                  go_simp
                  with_reducible rfl
                rotate_left
                · simp only [Act.put, List.setIfInBounds_toArray, List.set_cons_zero, List.set_cons_succ, i64_w, i32_w, u8_w_]
                  rfl
                refine take_ (i := 7) (N := some 24) (v := ?_) (a' := ?_) #[true, true, true, true, true, true, true, true, false, false] rfl rfl (take_ofW HT_.out HW_.out (by kernel_rfl)) (fun _ _ _ h => h) (Or.inl ⟨by rfl, ?_⟩) hHeld ?_ ?_
                rotate_left
                · rintro w' ⟨s0, s1, s2, s3, s4, s5⟩
                  go_simp
                  with_reducible rfl
                rotate_left
                · simp only [Act.put, List.setIfInBounds_toArray, List.set_cons_zero, List.set_cons_succ, i64_w, i32_w, u8_w_]
                  rfl
                refine one_ (i := 8) (N := some 25) #[true, true, true, true, true, true, true, true, true, false] rfl rfl (one_of HT_.out (by kernel_rfl)) (by decide) (fun K hK => ?_)
                refine goes_ Tryd.func123 (by kernel_rfl) rfl #[.agg #[.int .u8 ((rd_T137 l0 x5_1).f0), .int .u8 ((rd_T137 l0 x5_1).f1), .int .i8 ((rd_T137 l0 x5_1).f2)], .agg #[.int .u8 ((rd_T137 l1 x5_1).f0), .int .u8 ((rd_T137 l1 x5_1).f1), .int .i8 ((rd_T137 l1 x5_1).f2)]] (by rfl) rfl rfl (by (try simp only [List.map_toArray, List.map_cons, List.map_nil]); first | done | rfl | (simp only [List.length_drop, List.length_take]; rfl)) ?_
                with_reducible refine (laws_eqPair.calls ((rd_T137 l0 x5_1).f0) ((rd_T137 l0 x5_1).f1) ((rd_T137 l0 x5_1).f2) ((rd_T137 l1 x5_1).f0) ((rd_T137 l1 x5_1).f1) ((rd_T137 l1 x5_1).f2) true _ A7.out).mono ?_
                rintro e w10 ⟨rfl, hb⟩
                refine ⟨_, rfl, ?_⟩
                have n0_ := Aside0.mk (below_step (by repeat (first | (with_reducible first | exact HB.out | apply below_alloc | apply pw_below_drewN | apply below_drew1) | exact HB.out)) hb)
                clear HB
                have HB := n0_
                clear n0_
                (try clear hb)
                (try clear hb2)
                (try clear hk)
                (try clear hi)
                refine hK.out _ _ ⟨((HB.out.cell (World.block_lt_of_cell? w _ hw180_0)).trans hw180_0), ((HB.out.cell (World.block_lt_of_cell? w _ hw180_1)).trans hw180_1), ((HB.out.cell (World.block_lt_of_cell? w _ hw180_2)).trans hw180_2), ((HB.out.cell (World.block_lt_of_cell? w _ hw181_0)).trans hw181_0), ((HB.out.cell (World.block_lt_of_cell? w _ hw181_1)).trans hw181_1), ((HB.out.cell (World.block_lt_of_cell? w _ hw181_2)).trans hw181_2)⟩ (fun hHeld => ?_)
                clear hK K
                refine norm_ (a' := ?_) ?_ ?_
                rotate_left
                · show Act.put _ (some 25) _ = _
                  simp only [Act.put, List.setIfInBounds_toArray, List.set_cons_zero, List.set_cons_succ, i64_w, i32_w, u8_w_]
                  rfl
                refine pure_ (i := 9) (N := some 26) (v := ?_) (a' := ?_) #[true, true, true, true, true, true, true, true, true, true] rfl rfl (any_of HT_.out (by kernel_rfl)) (fun _ _ _ h => h) (Or.inl ⟨by rfl, ?_⟩) ?_ ?_
                rotate_left
                · intro w'
                  go_simp
                  with_reducible rfl
                rotate_left
                · simp only [Act.put, List.setIfInBounds_toArray, List.set_cons_zero, List.set_cons_succ, i64_w, i32_w, u8_w_]
                  rfl
                refine done_ (done_of HT_.out (by kernel_rfl)) ?_
                try go_wp2
                go_roundg k1
                case measure => have := HK1.out; omega
                case rel => exact ⟨(wrap64 (x5_1 + 1)), (by first | rfl | (simp; done) | (simp [*]; done)), H', ⟨by have := HK1.out; omega⟩, ⟨by repeat (first | (with_reducible first | exact HB.out | apply below_alloc | apply pw_below_drewN | apply below_drew1) | exact HB.out)⟩⟩
              · replace c8 := Bool.eq_false_iff.mpr c8
                subst c8
                have H1 : (some false) = some r := by rw [if_neg (show ¬ (false = true) by decide)] at H; exact H
                clear H
                have H := H1
                clear H1
                obtain rfl := Option.some.inj H
                try go_wp2
                have n0_ := Aside0.mk (below_drew1 HB.out)
                clear HB
                have HB := n0_
                clear n0_
                have p180 : 0 ≤ (x5_1 : Int) := of_decide_eq_true (by first | (with_reducible assumption) | assumption)
                have q180 : x5_1 < (l0.length : Int) := of_decide_eq_true (by first | (with_reducible assumption) | assumption)
                obtain ⟨ad180, e180, hx180_0, hx180_1, hx180_2⟩ := at_T137 HR0.out x5_1 p180 q180
                have hw180_2 := hx180_2
                have hw180_1 := hx180_1
                have hw180_0 := hx180_0
                cases e180
                replace hx180_0 := (HB.out.cell (World.block_lt_of_cell? w _ hx180_0)).trans hx180_0
                replace hx180_1 := (HB.out.cell (World.block_lt_of_cell? w _ hx180_1)).trans hx180_1
                replace hx180_2 := (HB.out.cell (World.block_lt_of_cell? w _ hx180_2)).trans hx180_2
                replace p180 := eq_true p180
                replace q180 := eq_true q180
                have p181 : 0 ≤ (x5_1 : Int) := of_decide_eq_true (by first | (with_reducible assumption) | assumption)
                have q181 : x5_1 < (l1.length : Int) := of_decide_eq_true (by first | (with_reducible assumption) | assumption)
                obtain ⟨ad181, e181, hx181_0, hx181_1, hx181_2⟩ := at_T137 HR1.out x5_1 p181 q181
                have hw181_2 := hx181_2
                have hw181_1 := hx181_1
                have hw181_0 := hx181_0
                cases e181
                replace hx181_0 := (HB.out.cell (World.block_lt_of_cell? w _ hx181_0)).trans hx181_0
                replace hx181_1 := (HB.out.cell (World.block_lt_of_cell? w _ hx181_1)).trans hx181_1
                replace hx181_2 := (HB.out.cell (World.block_lt_of_cell? w _ hx181_2)).trans hx181_2
                replace p181 := eq_true p181
                replace q181 := eq_true q181
                refine start_ (n := 10) (S := fun w' => w'.cell? (ad180.add ((x5_1).toNat * 3)) = some (.int .u8 ((rd_T137 l0 x5_1).f0)) ∧ w'.cell? ⟨(ad180.add ((x5_1).toNat * 3)).block, (ad180.add ((x5_1).toNat * 3)).off + 1, none⟩ = some (.int .u8 ((rd_T137 l0 x5_1).f1)) ∧ w'.cell? ⟨(ad180.add ((x5_1).toNat * 3)).block, (ad180.add ((x5_1).toNat * 3)).off + 2, none⟩ = some (.int .i8 ((rd_T137 l0 x5_1).f2)) ∧ w'.cell? (ad181.add ((x5_1).toNat * 3)) = some (.int .u8 ((rd_T137 l1 x5_1).f0)) ∧ w'.cell? ⟨(ad181.add ((x5_1).toNat * 3)).block, (ad181.add ((x5_1).toNat * 3)).off + 1, none⟩ = some (.int .u8 ((rd_T137 l1 x5_1).f1)) ∧ w'.cell? ⟨(ad181.add ((x5_1).toNat * 3)).block, (ad181.add ((x5_1).toNat * 3)).off + 2, none⟩ = some (.int .i8 ((rd_T137 l1 x5_1).f2))) (ds := []) #[false, false, false, false, false, false, false, false, false, false] (by kernel_rfl) rfl rfl ⟨((HB.out.cell (World.block_lt_of_cell? w _ hw180_0)).trans hw180_0), ((HB.out.cell (World.block_lt_of_cell? w _ hw180_1)).trans hw180_1), ((HB.out.cell (World.block_lt_of_cell? w _ hw180_2)).trans hw180_2), ((HB.out.cell (World.block_lt_of_cell? w _ hw181_0)).trans hw181_0), ((HB.out.cell (World.block_lt_of_cell? w _ hw181_1)).trans hw181_1), ((HB.out.cell (World.block_lt_of_cell? w _ hw181_2)).trans hw181_2)⟩ (fun hHeld => ?_); refine with_tabW laws_eqPairS.tab6 laws_eqPairS.bits6 (fun HT_ HW_ => ?_)
                generalize wr.drew = w11 at HB hx180_0 hx180_1 hx180_2 hx181_0 hx181_1 hx181_2 hHeld ⊢
                refine pure_ (i := 0) (N := some 17) (v := ?_) (a' := ?_) #[true, false, false, false, false, false, false, false, false, false] rfl rfl (any_of HT_.out (by kernel_rfl)) (fun _ _ _ h => h) (Or.inl ⟨by rfl, ?_⟩) ?_ ?_
                rotate_left
                · intro w'
                  go_simp
                  with_reducible rfl
                rotate_left
                · simp only [Act.put, List.setIfInBounds_toArray, List.set_cons_zero, List.set_cons_succ, i64_w, i32_w, u8_w_]
                  rfl
                refine pure_ (i := 1) (N := some 18) (v := ?_) (a' := ?_) #[true, true, false, false, false, false, false, false, false, false] rfl rfl (any_of HT_.out (by kernel_rfl)) (fun _ _ _ h => h) (Or.inl ⟨by rfl, ?_⟩) ?_ ?_
                rotate_left
                · intro w'
                  go_simp
                  with_reducible rfl
                rotate_left
                · simp only [Act.put, List.setIfInBounds_toArray, List.set_cons_zero, List.set_cons_succ, i64_w, i32_w, u8_w_]
                  rfl
                refine pure_ (i := 2) (N := some 19) (v := ?_) (a' := ?_) #[true, true, true, false, false, false, false, false, false, false] rfl rfl (any_of HT_.out (by kernel_rfl)) (fun _ _ _ h => h) (Or.inl ⟨by rfl, ?_⟩) ?_ ?_
                rotate_left
                · intro w'
                  go_simp
                  with_reducible rfl
                rotate_left
                · simp only [Act.put, List.setIfInBounds_toArray, List.set_cons_zero, List.set_cons_succ, i64_w, i32_w, u8_w_]
                  rfl
                refine pure_ (i := 4) (N := some 21) (v := ?_) (a' := ?_) #[true, true, true, false, true, false, false, false, false, false] rfl rfl (any_of HT_.out (by kernel_rfl)) (fun _ _ _ h => h) (Or.inl ⟨by rfl, ?_⟩) ?_ ?_
                rotate_left
                · intro w'
                  go_simp
                  with_reducible rfl
                rotate_left
                · simp only [Act.put, List.setIfInBounds_toArray, List.set_cons_zero, List.set_cons_succ, i64_w, i32_w, u8_w_]
                  rfl
                refine pure_ (i := 5) (N := some 22) (v := ?_) (a' := ?_) #[true, true, true, false, true, true, false, false, false, false] rfl rfl (any_of HT_.out (by kernel_rfl)) (fun _ _ _ h => h) (Or.inl ⟨by rfl, ?_⟩) ?_ ?_
                rotate_left
                · intro w'
                  go_simp
                  with_reducible rfl
                rotate_left
                · simp only [Act.put, List.setIfInBounds_toArray, List.set_cons_zero, List.set_cons_succ, i64_w, i32_w, u8_w_]
                  rfl
                refine pure_ (i := 6) (N := some 23) (v := ?_) (a' := ?_) #[true, true, true, false, true, true, true, false, false, false] rfl rfl (any_of HT_.out (by kernel_rfl)) (fun _ _ _ h => h) (Or.inl ⟨by rfl, ?_⟩) ?_ ?_
                rotate_left
                · intro w'
                  go_simp
                  with_reducible rfl
                rotate_left
                · simp only [Act.put, List.setIfInBounds_toArray, List.set_cons_zero, List.set_cons_succ, i64_w, i32_w, u8_w_]
                  rfl
                refine take_ (i := 3) (N := some 20) (v := ?_) (a' := ?_) #[true, true, true, true, true, true, true, false, false, false] rfl rfl (take_ofW HT_.out HW_.out (by kernel_rfl)) (fun _ _ _ h => h) (Or.inl ⟨by rfl, ?_⟩) hHeld ?_ ?_
                rotate_left
                · rintro w' ⟨s0, s1, s2, s3, s4, s5⟩
                  go_simp
                  with_reducible rfl
                rotate_left
                · simp only [Act.put, List.setIfInBounds_toArray, List.set_cons_zero, List.set_cons_succ, i64_w, i32_w, u8_w_]
                  rfl
                refine take_ (i := 7) (N := some 24) (v := ?_) (a' := ?_) #[true, true, true, true, true, true, true, true, false, false] rfl rfl (take_ofW HT_.out HW_.out (by kernel_rfl)) (fun _ _ _ h => h) (Or.inl ⟨by rfl, ?_⟩) hHeld ?_ ?_
                rotate_left
                · rintro w' ⟨s0, s1, s2, s3, s4, s5⟩
                  go_simp
                  with_reducible rfl
                rotate_left
                · simp only [Act.put, List.setIfInBounds_toArray, List.set_cons_zero, List.set_cons_succ, i64_w, i32_w, u8_w_]
                  rfl
                refine one_ (i := 8) (N := some 25) #[true, true, true, true, true, true, true, true, true, false] rfl rfl (one_of HT_.out (by kernel_rfl)) (by decide) (fun K hK => ?_)
                refine goes_ Tryd.func123 (by kernel_rfl) rfl #[.agg #[.int .u8 ((rd_T137 l0 x5_1).f0), .int .u8 ((rd_T137 l0 x5_1).f1), .int .i8 ((rd_T137 l0 x5_1).f2)], .agg #[.int .u8 ((rd_T137 l1 x5_1).f0), .int .u8 ((rd_T137 l1 x5_1).f1), .int .i8 ((rd_T137 l1 x5_1).f2)]] (by rfl) rfl rfl (by (try simp only [List.map_toArray, List.map_cons, List.map_nil]); first | done | rfl | (simp only [List.length_drop, List.length_take]; rfl)) ?_
                with_reducible refine (laws_eqPair.calls ((rd_T137 l0 x5_1).f0) ((rd_T137 l0 x5_1).f1) ((rd_T137 l0 x5_1).f2) ((rd_T137 l1 x5_1).f0) ((rd_T137 l1 x5_1).f1) ((rd_T137 l1 x5_1).f2) false _ A7.out).mono ?_
                rintro e w12 ⟨rfl, hb⟩
                refine ⟨_, rfl, ?_⟩
                have n0_ := Aside0.mk (below_step (by repeat (first | (with_reducible first | exact HB.out | apply below_alloc | apply pw_below_drewN | apply below_drew1) | exact HB.out)) hb)
                clear HB
                have HB := n0_
                clear n0_
                (try clear hb)
                (try clear hb2)
                (try clear hk)
                (try clear hi)
                refine hK.out _ _ ⟨((HB.out.cell (World.block_lt_of_cell? w _ hw180_0)).trans hw180_0), ((HB.out.cell (World.block_lt_of_cell? w _ hw180_1)).trans hw180_1), ((HB.out.cell (World.block_lt_of_cell? w _ hw180_2)).trans hw180_2), ((HB.out.cell (World.block_lt_of_cell? w _ hw181_0)).trans hw181_0), ((HB.out.cell (World.block_lt_of_cell? w _ hw181_1)).trans hw181_1), ((HB.out.cell (World.block_lt_of_cell? w _ hw181_2)).trans hw181_2)⟩ (fun hHeld => ?_)
                clear hK K
                refine norm_ (a' := ?_) ?_ ?_
                rotate_left
                · show Act.put _ (some 25) _ = _
                  simp only [Act.put, List.setIfInBounds_toArray, List.set_cons_zero, List.set_cons_succ, i64_w, i32_w, u8_w_]
                  rfl
                refine pure_ (i := 9) (N := some 26) (v := ?_) (a' := ?_) #[true, true, true, true, true, true, true, true, true, true] rfl rfl (any_of HT_.out (by kernel_rfl)) (fun _ _ _ h => h) (Or.inl ⟨by rfl, ?_⟩) ?_ ?_
                rotate_left
                · intro w'
                  go_simp
                  with_reducible rfl
                rotate_left
                · simp only [Act.put, List.setIfInBounds_toArray, List.set_cons_zero, List.set_cons_succ, i64_w, i32_w, u8_w_]
                  rfl
                refine done_ (done_of HT_.out (by kernel_rfl)) ?_
                try go_wp2
                go_ret
                exact ⟨by first | rfl | (simp [errW_none, errW_some] <;> rfl) | (simp [*, errW_none, errW_some] <;> rfl), by repeat (first | (with_reducible first | exact HB.out | apply below_alloc | apply pw_below_drewN | apply below_drew1) | exact HB.out)⟩
            · rw [if_neg c6] at H
              exact absurd H (by simp)
          · rw [if_neg c5] at H
            exact absurd H (by simp)
        · rw [if_neg c4] at H
          have c4b0 : decide (x5_1 < (l0.length : Int)) = false := decide_eq_false c4
          clear c4
          obtain rfl := Option.some.inj H
          go_wp2
          go_ret
          exact ⟨by first | rfl | (simp [errW_none, errW_some] <;> rfl) | (simp [*, errW_none, errW_some] <;> rfl), by repeat (first | (with_reducible first | exact HB.out | apply below_alloc | apply pw_below_drewN | apply below_drew1) | exact HB.out)⟩
  · rw [if_neg c3] at H
    have c3b0 : ((l0.length : Int) == (l1.length : Int)) = false := beq_eq_false_iff_ne.mpr c3
    have c3b1 : ((l0.length : Int) != (l1.length : Int)) = true := bne_iff_ne.mpr c3
    have c3b2 : (l0.length == l1.length) = false := by first | simpa using c3 | (simp at c3 ⊢; omega)
    obtain rfl := Option.some.inj H
    go_enter Tryd.func72, Tryd.ntmps72
    go_wp2
    go_ret
    exact ⟨by first | rfl | (simp [errW_none, errW_some] <;> rfl) | (simp [*, errW_none, errW_some] <;> rfl), by repeat (first | (with_reducible first | exact HB.out | apply below_alloc | apply pw_below_drewN | apply below_drew1) | exact HB.out)⟩

/-! ### laws_eqFace: function 22 -/
def laws_eqFace.f (k : Nat) (a0_0 a0_1 a0_2 a0_3 a0_4 a0_5 a0_6 a0_7 a0_8 a0_9 a0_10 a0_11 a0_12 a0_13 a0_14 a0_15 a0_16 a0_17 a0_18 a0_19 a0_20 a0_21 a0_22 a0_23 a0_24 a0_25 a0_26 a0_27 : Int) (l0_28 : List (S137)) (a1_0 a1_1 a1_2 a1_3 a1_4 a1_5 a1_6 a1_7 a1_8 a1_9 a1_10 a1_11 a1_12 a1_13 a1_14 a1_15 a1_16 a1_17 a1_18 a1_19 a1_20 a1_21 a1_22 a1_23 a1_24 a1_25 a1_26 a1_27 : Int) (l1_28 : List (S137)) : Option (Bool) := (laws_eqInt8A26.f k a0_0 a0_1 a0_2 a0_3 a0_4 a0_5 a0_6 a0_7 a0_8 a0_9 a0_10 a0_11 a0_12 a0_13 a0_14 a0_15 a0_16 a0_17 a0_18 a0_19 a0_20 a0_21 a0_22 a0_23 a0_24 a0_25 a1_0 a1_1 a1_2 a1_3 a1_4 a1_5 a1_6 a1_7 a1_8 a1_9 a1_10 a1_11 a1_12 a1_13 a1_14 a1_15 a1_16 a1_17 a1_18 a1_19 a1_20 a1_21 a1_22 a1_23 a1_24 a1_25).bind fun t185 => (if t185 = true then (if a0_26 = a1_26 then (if a0_27 = a1_27 then ((laws_eqPairS.f k l0_28 l1_28).bind fun t186 => (if t186 = true then (some true) else (some false))) else (some false)) else (some false)) else (some false))
theorem laws_eqFace.mono : ∀ a0 a1 a2 a3 a4 a5 a6 a7 a8 a9 a10 a11 a12 a13 a14 a15 a16 a17 a18 a19 a20 a21 a22 a23 a24 a25 a26 a27 a28 a29 a30 a31 a32 a33 a34 a35 a36 a37 a38 a39 a40 a41 a42 a43 a44 a45 a46 a47 a48 a49 a50 a51 a52 a53 a54 a55 a56 a57 k, LeO (laws_eqFace.f k a0 a1 a2 a3 a4 a5 a6 a7 a8 a9 a10 a11 a12 a13 a14 a15 a16 a17 a18 a19 a20 a21 a22 a23 a24 a25 a26 a27 a28 a29 a30 a31 a32 a33 a34 a35 a36 a37 a38 a39 a40 a41 a42 a43 a44 a45 a46 a47 a48 a49 a50 a51 a52 a53 a54 a55 a56 a57) (laws_eqFace.f (k + 1) a0 a1 a2 a3 a4 a5 a6 a7 a8 a9 a10 a11 a12 a13 a14 a15 a16 a17 a18 a19 a20 a21 a22 a23 a24 a25 a26 a27 a28 a29 a30 a31 a32 a33 a34 a35 a36 a37 a38 a39 a40 a41 a42 a43 a44 a45 a46 a47 a48 a49 a50 a51 a52 a53 a54 a55 a56 a57) := by
  intro a0 a1 a2 a3 a4 a5 a6 a7 a8 a9 a10 a11 a12 a13 a14 a15 a16 a17 a18 a19 a20 a21 a22 a23 a24 a25 a26 a27 a28 a29 a30 a31 a32 a33 a34 a35 a36 a37 a38 a39 a40 a41 a42 a43 a44 a45 a46 a47 a48 a49 a50 a51 a52 a53 a54 a55 a56 a57 k
  unfold laws_eqFace.f
  repeat' first
      | (with_reducible exact laws_eqInt8A26.mono _ _ _ _ _ _ _ _ _ _ _ _ _ _ _ _ _ _ _ _ _ _ _ _ _ _ _ _ _ _ _ _ _ _ _ _ _ _ _ _ _ _ _ _ _ _ _ _ _ _ _ _ _)
      | (with_reducible exact laws_eqPairS.mono _ _ _)
      | (with_reducible exact LeO.refl _)
      | (with_reducible exact LeO.none _)
      | (with_reducible refine LeO.ite ?_ ?_)
      | (with_reducible refine LeO.bind ?_ (fun _ => ?_))
      | exact laws_eqInt8A26.mono _ _ _ _ _ _ _ _ _ _ _ _ _ _ _ _ _ _ _ _ _ _ _ _ _ _ _ _ _ _ _ _ _ _ _ _ _ _ _ _ _ _ _ _ _ _ _ _ _ _ _ _ _
      | exact laws_eqPairS.mono _ _ _
      | exact LeO.none _
      | refine LeO.ite ?_ ?_
      | refine LeO.bind ?_ (fun _ => ?_)
set_option maxHeartbeats 8000000 in
set_option maxRecDepth 100000 in
theorem laws_eqFace.calls (k : Nat) (a0_0 a0_1 a0_2 a0_3 a0_4 a0_5 a0_6 a0_7 a0_8 a0_9 a0_10 a0_11 a0_12 a0_13 a0_14 a0_15 a0_16 a0_17 a0_18 a0_19 a0_20 a0_21 a0_22 a0_23 a0_24 a0_25 a0_26 a0_27 : Int) (A0_28 : Option Addr) (c0_28 : Nat) (l0_28 : List (S137)) (a1_0 a1_1 a1_2 a1_3 a1_4 a1_5 a1_6 a1_7 a1_8 a1_9 a1_10 a1_11 a1_12 a1_13 a1_14 a1_15 a1_16 a1_17 a1_18 a1_19 a1_20 a1_21 a1_22 a1_23 a1_24 a1_25 a1_26 a1_27 : Int) (A1_28 : Option Addr) (c1_28 : Nat) (l1_28 : List (S137)) (r : Bool) (w : World) (hr0_28 : Kd.C k137 w A0_28 l0_28.length l0_28) (hc0_28 : l0_28.length ≤ c0_28) (hr1_28 : Kd.C k137 w A1_28 l1_28.length l1_28) (hc1_28 : l1_28.length ≤ c1_28) (h : laws_eqFace.f k a0_0 a0_1 a0_2 a0_3 a0_4 a0_5 a0_6 a0_7 a0_8 a0_9 a0_10 a0_11 a0_12 a0_13 a0_14 a0_15 a0_16 a0_17 a0_18 a0_19 a0_20 a0_21 a0_22 a0_23 a0_24 a0_25 a0_26 a0_27 l0_28 a1_0 a1_1 a1_2 a1_3 a1_4 a1_5 a1_6 a1_7 a1_8 a1_9 a1_10 a1_11 a1_12 a1_13 a1_14 a1_15 a1_16 a1_17 a1_18 a1_19 a1_20 a1_21 a1_22 a1_23 a1_24 a1_25 a1_26 a1_27 l1_28 = some r) :
    Calls Tryd.prog 22 #[.agg #[.int .i8 a0_0, .int .i8 a0_1, .int .i8 a0_2, .int .i8 a0_3, .int .i8 a0_4, .int .i8 a0_5, .int .i8 a0_6, .int .i8 a0_7, .int .i8 a0_8, .int .i8 a0_9, .int .i8 a0_10, .int .i8 a0_11, .int .i8 a0_12, .int .i8 a0_13, .int .i8 a0_14, .int .i8 a0_15, .int .i8 a0_16, .int .i8 a0_17, .int .i8 a0_18, .int .i8 a0_19, .int .i8 a0_20, .int .i8 a0_21, .int .i8 a0_22, .int .i8 a0_23, .int .i8 a0_24, .int .i8 a0_25, .int .i8 a0_26, .int .i8 a0_27, .slice A0_28 l0_28.length c0_28], .agg #[.int .i8 a1_0, .int .i8 a1_1, .int .i8 a1_2, .int .i8 a1_3, .int .i8 a1_4, .int .i8 a1_5, .int .i8 a1_6, .int .i8 a1_7, .int .i8 a1_8, .int .i8 a1_9, .int .i8 a1_10, .int .i8 a1_11, .int .i8 a1_12, .int .i8 a1_13, .int .i8 a1_14, .int .i8 a1_15, .int .i8 a1_16, .int .i8 a1_17, .int .i8 a1_18, .int .i8 a1_19, .int .i8 a1_20, .int .i8 a1_21, .int .i8 a1_22, .int .i8 a1_23, .int .i8 a1_24, .int .i8 a1_25, .int .i8 a1_26, .int .i8 a1_27, .slice A1_28 l1_28.length c1_28]] w fun e w' => e = .returned (.bool r) ∧ Below w.heap.size w w' := by
  have hu32 := Tryd.underlying32
  have hu23 := Tryd.underlying23
  have HR0_28 := Aside0.mk hr0_28
  have HC0_28 := Aside0.mk hc0_28
  clear hr0_28 hc0_28
  have HR1_28 := Aside0.mk hr1_28
  have HC1_28 := Aside0.mk hc1_28
  clear hr1_28 hc1_28
  have HB := Aside0.mk (Below.refl w.heap.size w)
  have H : ((laws_eqInt8A26.f k a0_0 a0_1 a0_2 a0_3 a0_4 a0_5 a0_6 a0_7 a0_8 a0_9 a0_10 a0_11 a0_12 a0_13 a0_14 a0_15 a0_16 a0_17 a0_18 a0_19 a0_20 a0_21 a0_22 a0_23 a0_24 a0_25 a1_0 a1_1 a1_2 a1_3 a1_4 a1_5 a1_6 a1_7 a1_8 a1_9 a1_10 a1_11 a1_12 a1_13 a1_14 a1_15 a1_16 a1_17 a1_18 a1_19 a1_20 a1_21 a1_22 a1_23 a1_24 a1_25).bind fun t185 => (if t185 = true then (if a0_26 = a1_26 then (if a0_27 = a1_27 then ((laws_eqPairS.f k l0_28 l1_28).bind fun t186 => (if t186 = true then (some true) else (some false))) else (some false)) else (some false)) else (some false))) = some r := h
  clear h
  replace H := Option.bind_eq_some_iff.mp H
  obtain ⟨t185, A30, H⟩ := H
  replace H : (if t185 = true then (if a0_26 = a1_26 then (if a0_27 = a1_27 then ((laws_eqPairS.f k l0_28 l1_28).bind fun t186 => (if t186 = true then (some true) else (some false))) else (some false)) else (some false)) else (some false)) = some r := H
  have A3 := Aside0.mk A30
  clear A30
  by_cases c4 : t185 = true
  · subst c4
    have H1 : (if a0_26 = a1_26 then (if a0_27 = a1_27 then ((laws_eqPairS.f k l0_28 l1_28).bind fun t186 => (if t186 = true then (some true) else (some false))) else (some false)) else (some false)) = some r := by rw [if_pos rfl] at H; exact H
    clear H
    have H := H1
    clear H1
    by_cases c5 : a0_26 = a1_26
    · rw [if_pos c5] at H
      have c5b0 : (a0_26 == a1_26) = true := beq_iff_eq.mpr c5
      have c5b1 : (a0_26 != a1_26) = false := bne_eq_false_iff_eq.mpr c5
      clear c5
      by_cases c6 : a0_27 = a1_27
      · rw [if_pos c6] at H
        have c6b0 : (a0_27 == a1_27) = true := beq_iff_eq.mpr c6
        have c6b1 : (a0_27 != a1_27) = false := bne_eq_false_iff_eq.mpr c6
        clear c6
        replace H := Option.bind_eq_some_iff.mp H
        obtain ⟨t186, A70, H⟩ := H
        replace H : (if t186 = true then (some true) else (some false)) = some r := H
        have A7 := Aside0.mk A70
        clear A70
        by_cases c8 : t186 = true
        · subst c8
          have H1 : (some true) = some r := by rw [if_pos rfl] at H; exact H
          clear H
          have H := H1
          clear H1
          obtain rfl := Option.some.inj H
          go_enter Tryd.func22, Tryd.ntmps22
          go_wp2_with (first | ((with_reducible refine gate_dst (N := 2) rfl ?_); refine box_event ?hg (N := 2) ?hd (cs := #[.int .i8 a0_0, .int .i8 a0_1, .int .i8 a0_2, .int .i8 a0_3, .int .i8 a0_4, .int .i8 a0_5, .int .i8 a0_6, .int .i8 a0_7, .int .i8 a0_8, .int .i8 a0_9, .int .i8 a0_10, .int .i8 a0_11, .int .i8 a0_12, .int .i8 a0_13, .int .i8 a0_14, .int .i8 a0_15, .int .i8 a0_16, .int .i8 a0_17, .int .i8 a0_18, .int .i8 a0_19, .int .i8 a0_20, .int .i8 a0_21, .int .i8 a0_22, .int .i8 a0_23, .int .i8 a0_24, .int .i8 a0_25, .int .i8 a0_26, .int .i8 a0_27, .slice A0_28 l0_28.length c0_28]) (t := 32) ?hr ?_; (case hd => rfl); (case hg => rfl); (case hr => first | (go_simp; done) | (go_simp; rfl)); intro gb183 hg w9 hbox hb; have n0_ := Aside0.mk (below_step (by repeat (first | (with_reducible first | exact HB.out | apply below_alloc | apply pw_below_drewN | apply below_drew1) | exact HB.out)) hb); have n1_ := Aside0.mk (hbox); have n2_ := Aside0.mk ((by rw [hg]; exact (below_size (by repeat (first | (with_reducible first | exact HB.out | apply below_alloc | apply pw_below_drewN | apply below_drew1) | exact HB.out))) : w.heap.size ≤ gb183)); have n3_ := Aside0.mk ((by rw [hg]; exact (below_size (by repeat (first | (with_reducible first | exact HB.out | apply below_alloc | apply pw_below_drewN | apply below_drew1) | exact HB.out))) : w.heap.size ≤ gb183)); clear HB; have HB := n0_; have BK183 := n1_; have GW183 := n2_; have GE183 := n3_; clear n0_ n1_ n2_ n3_; clear hb hbox hg) | ((with_reducible refine gate_dst (N := 3) rfl ?_); refine box_event ?hg (N := 3) ?hd (cs := #[.int .i8 a1_0, .int .i8 a1_1, .int .i8 a1_2, .int .i8 a1_3, .int .i8 a1_4, .int .i8 a1_5, .int .i8 a1_6, .int .i8 a1_7, .int .i8 a1_8, .int .i8 a1_9, .int .i8 a1_10, .int .i8 a1_11, .int .i8 a1_12, .int .i8 a1_13, .int .i8 a1_14, .int .i8 a1_15, .int .i8 a1_16, .int .i8 a1_17, .int .i8 a1_18, .int .i8 a1_19, .int .i8 a1_20, .int .i8 a1_21, .int .i8 a1_22, .int .i8 a1_23, .int .i8 a1_24, .int .i8 a1_25, .int .i8 a1_26, .int .i8 a1_27, .slice A1_28 l1_28.length c1_28]) (t := 32) ?hr ?_; (case hd => rfl); (case hg => rfl); (case hr => first | (go_simp; done) | (go_simp; rfl)); intro gb184 hg w10 hbox hb; have n0_ := Aside0.mk (blk_below (g := gb183) (o := .cells #[.int .i8 a0_0, .int .i8 a0_1, .int .i8 a0_2, .int .i8 a0_3, .int .i8 a0_4, .int .i8 a0_5, .int .i8 a0_6, .int .i8 a0_7, .int .i8 a0_8, .int .i8 a0_9, .int .i8 a0_10, .int .i8 a0_11, .int .i8 a0_12, .int .i8 a0_13, .int .i8 a0_14, .int .i8 a0_15, .int .i8 a0_16, .int .i8 a0_17, .int .i8 a0_18, .int .i8 a0_19, .int .i8 a0_20, .int .i8 a0_21, .int .i8 a0_22, .int .i8 a0_23, .int .i8 a0_24, .int .i8 a0_25, .int .i8 a0_26, .int .i8 a0_27, .slice A0_28 l0_28.length c0_28] 32 (0, 0)) (by (with_reducible repeat (first | refine blk_drewN ?_ _ | refine blk_drew ?_ | refine blk_alloc ?_ _)); exact BK183.out) hb); have n1_ := Aside0.mk (below_step (by repeat (first | (with_reducible first | exact HB.out | apply below_alloc | apply pw_below_drewN | apply below_drew1 | refine below_set ?_ GE183.out) | exact HB.out)) hb); have n2_ := Aside0.mk (hbox); have n3_ := Aside0.mk ((by rw [hg]; exact (below_size (by repeat (first | (with_reducible first | exact HB.out | apply below_alloc | apply pw_below_drewN | apply below_drew1 | refine below_set ?_ GE183.out) | exact HB.out))) : w.heap.size ≤ gb184)); have n4_ := Aside0.mk ((by rw [hg]; exact (below_size (by repeat (first | (with_reducible first | exact HB.out | apply below_alloc | apply pw_below_drewN | apply below_drew1 | refine below_set ?_ GE183.out) | exact HB.out))) : w.heap.size ≤ gb184)); have n5_ := Aside0.mk ((by rw [hg]; exact Nat.ne_of_lt (blk_lt (g := gb183) (o := .cells #[.int .i8 a0_0, .int .i8 a0_1, .int .i8 a0_2, .int .i8 a0_3, .int .i8 a0_4, .int .i8 a0_5, .int .i8 a0_6, .int .i8 a0_7, .int .i8 a0_8, .int .i8 a0_9, .int .i8 a0_10, .int .i8 a0_11, .int .i8 a0_12, .int .i8 a0_13, .int .i8 a0_14, .int .i8 a0_15, .int .i8 a0_16, .int .i8 a0_17, .int .i8 a0_18, .int .i8 a0_19, .int .i8 a0_20, .int .i8 a0_21, .int .i8 a0_22, .int .i8 a0_23, .int .i8 a0_24, .int .i8 a0_25, .int .i8 a0_26, .int .i8 a0_27, .slice A0_28 l0_28.length c0_28] 32 (0, 0)) (by (with_reducible repeat (first | refine blk_drewN ?_ _ | refine blk_drew ?_ | refine blk_alloc ?_ _)); exact BK183.out)) : gb183 ≠ gb184)); have n6_ := Aside0.mk ((by rw [hg]; exact Nat.ne_of_gt (blk_lt (g := gb183) (o := .cells #[.int .i8 a0_0, .int .i8 a0_1, .int .i8 a0_2, .int .i8 a0_3, .int .i8 a0_4, .int .i8 a0_5, .int .i8 a0_6, .int .i8 a0_7, .int .i8 a0_8, .int .i8 a0_9, .int .i8 a0_10, .int .i8 a0_11, .int .i8 a0_12, .int .i8 a0_13, .int .i8 a0_14, .int .i8 a0_15, .int .i8 a0_16, .int .i8 a0_17, .int .i8 a0_18, .int .i8 a0_19, .int .i8 a0_20, .int .i8 a0_21, .int .i8 a0_22, .int .i8 a0_23, .int .i8 a0_24, .int .i8 a0_25, .int .i8 a0_26, .int .i8 a0_27, .slice A0_28 l0_28.length c0_28] 32 (0, 0)) (by (with_reducible repeat (first | refine blk_drewN ?_ _ | refine blk_drew ?_ | refine blk_alloc ?_ _)); exact BK183.out)) : gb184 ≠ gb183)); clear BK183; clear HB; have BK183 := n0_; have HB := n1_; have BK184 := n2_; have GW184 := n3_; have GE184 := n4_; have NB183_184 := n5_; have NB184_183 := n6_; clear n0_ n1_ n2_ n3_ n4_ n5_ n6_; clear hb hbox hg) | ((with_reducible refine gate_dst (N := 6) rfl ?_); refine wpList_load_mid rfl 23 (.tmp 5) rfl gb183 0 rfl [.int .i8 a0_0, .int .i8 a0_1, .int .i8 a0_2, .int .i8 a0_3, .int .i8 a0_4, .int .i8 a0_5, .int .i8 a0_6, .int .i8 a0_7, .int .i8 a0_8, .int .i8 a0_9, .int .i8 a0_10, .int .i8 a0_11, .int .i8 a0_12, .int .i8 a0_13, .int .i8 a0_14, .int .i8 a0_15, .int .i8 a0_16, .int .i8 a0_17, .int .i8 a0_18, .int .i8 a0_19, .int .i8 a0_20, .int .i8 a0_21, .int .i8 a0_22, .int .i8 a0_23, .int .i8 a0_24, .int .i8 a0_25] _ (range_partx_ [] [.int .i8 a0_0, .int .i8 a0_1, .int .i8 a0_2, .int .i8 a0_3, .int .i8 a0_4, .int .i8 a0_5, .int .i8 a0_6, .int .i8 a0_7, .int .i8 a0_8, .int .i8 a0_9, .int .i8 a0_10, .int .i8 a0_11, .int .i8 a0_12, .int .i8 a0_13, .int .i8 a0_14, .int .i8 a0_15, .int .i8 a0_16, .int .i8 a0_17, .int .i8 a0_18, .int .i8 a0_19, .int .i8 a0_20, .int .i8 a0_21, .int .i8 a0_22, .int .i8 a0_23, .int .i8 a0_24, .int .i8 a0_25] [.int .i8 a0_26, .int .i8 a0_27, .slice A0_28 l0_28.length c0_28] 0 rfl (by (with_reducible repeat (first | refine blk_drewN ?_ _ | refine blk_drew ?_ | refine blk_alloc ?_ _)); exact BK183.out)) Tryd.underlying23 rfl (by exact (show (Tryd.prog.info? 23).map (·.size) = some 26 by kernel_rfl)) ?_) | ((with_reducible refine gate_dst (N := 8) rfl ?_); refine wpList_load_mid rfl 23 (.tmp 7) rfl gb184 0 rfl [.int .i8 a1_0, .int .i8 a1_1, .int .i8 a1_2, .int .i8 a1_3, .int .i8 a1_4, .int .i8 a1_5, .int .i8 a1_6, .int .i8 a1_7, .int .i8 a1_8, .int .i8 a1_9, .int .i8 a1_10, .int .i8 a1_11, .int .i8 a1_12, .int .i8 a1_13, .int .i8 a1_14, .int .i8 a1_15, .int .i8 a1_16, .int .i8 a1_17, .int .i8 a1_18, .int .i8 a1_19, .int .i8 a1_20, .int .i8 a1_21, .int .i8 a1_22, .int .i8 a1_23, .int .i8 a1_24, .int .i8 a1_25] _ (range_partx_ [] [.int .i8 a1_0, .int .i8 a1_1, .int .i8 a1_2, .int .i8 a1_3, .int .i8 a1_4, .int .i8 a1_5, .int .i8 a1_6, .int .i8 a1_7, .int .i8 a1_8, .int .i8 a1_9, .int .i8 a1_10, .int .i8 a1_11, .int .i8 a1_12, .int .i8 a1_13, .int .i8 a1_14, .int .i8 a1_15, .int .i8 a1_16, .int .i8 a1_17, .int .i8 a1_18, .int .i8 a1_19, .int .i8 a1_20, .int .i8 a1_21, .int .i8 a1_22, .int .i8 a1_23, .int .i8 a1_24, .int .i8 a1_25] [.int .i8 a1_26, .int .i8 a1_27, .slice A1_28 l1_28.length c1_28] 0 rfl (by (with_reducible repeat (first | refine blk_drewN ?_ _ | refine blk_drew ?_ | refine blk_alloc ?_ _)); exact BK184.out)) Tryd.underlying23 rfl (by exact (show (Tryd.prog.info? 23).map (·.size) = some 26 by kernel_rfl)) ?_) | ((with_reducible refine gate_callee (f := 71) rfl ?_); refine goesL_ (some 9) rfl rfl Tryd.func71 (by kernel_rfl) rfl #[.agg #[.int .i8 a0_0, .int .i8 a0_1, .int .i8 a0_2, .int .i8 a0_3, .int .i8 a0_4, .int .i8 a0_5, .int .i8 a0_6, .int .i8 a0_7, .int .i8 a0_8, .int .i8 a0_9, .int .i8 a0_10, .int .i8 a0_11, .int .i8 a0_12, .int .i8 a0_13, .int .i8 a0_14, .int .i8 a0_15, .int .i8 a0_16, .int .i8 a0_17, .int .i8 a0_18, .int .i8 a0_19, .int .i8 a0_20, .int .i8 a0_21, .int .i8 a0_22, .int .i8 a0_23, .int .i8 a0_24, .int .i8 a0_25], .agg #[.int .i8 a1_0, .int .i8 a1_1, .int .i8 a1_2, .int .i8 a1_3, .int .i8 a1_4, .int .i8 a1_5, .int .i8 a1_6, .int .i8 a1_7, .int .i8 a1_8, .int .i8 a1_9, .int .i8 a1_10, .int .i8 a1_11, .int .i8 a1_12, .int .i8 a1_13, .int .i8 a1_14, .int .i8 a1_15, .int .i8 a1_16, .int .i8 a1_17, .int .i8 a1_18, .int .i8 a1_19, .int .i8 a1_20, .int .i8 a1_21, .int .i8 a1_22, .int .i8 a1_23, .int .i8 a1_24, .int .i8 a1_25]] rfl (by (try simp only [List.map_toArray, List.map_cons, List.map_nil]); first | done | rfl | (simp only [List.length_drop, List.length_take]; rfl)) ?_; (with_reducible refine (laws_eqInt8A26.calls k a0_0 a0_1 a0_2 a0_3 a0_4 a0_5 a0_6 a0_7 a0_8 a0_9 a0_10 a0_11 a0_12 a0_13 a0_14 a0_15 a0_16 a0_17 a0_18 a0_19 a0_20 a0_21 a0_22 a0_23 a0_24 a0_25 a1_0 a1_1 a1_2 a1_3 a1_4 a1_5 a1_6 a1_7 a1_8 a1_9 a1_10 a1_11 a1_12 a1_13 a1_14 a1_15 a1_16 a1_17 a1_18 a1_19 a1_20 a1_21 a1_22 a1_23 a1_24 a1_25 true _ A3.out).mono ?_); rintro e w11 ⟨rfl, hb⟩; refine ⟨_, rfl, ?_⟩; have n0_ := Aside0.mk (blk_below (g := gb183) (o := .cells #[.int .i8 a0_0, .int .i8 a0_1, .int .i8 a0_2, .int .i8 a0_3, .int .i8 a0_4, .int .i8 a0_5, .int .i8 a0_6, .int .i8 a0_7, .int .i8 a0_8, .int .i8 a0_9, .int .i8 a0_10, .int .i8 a0_11, .int .i8 a0_12, .int .i8 a0_13, .int .i8 a0_14, .int .i8 a0_15, .int .i8 a0_16, .int .i8 a0_17, .int .i8 a0_18, .int .i8 a0_19, .int .i8 a0_20, .int .i8 a0_21, .int .i8 a0_22, .int .i8 a0_23, .int .i8 a0_24, .int .i8 a0_25, .int .i8 a0_26, .int .i8 a0_27, .slice A0_28 l0_28.length c0_28] 32 (0, 0)) (by (with_reducible repeat (first | refine blk_drewN ?_ _ | refine blk_drew ?_ | refine blk_alloc ?_ _)); exact BK183.out) hb); have n1_ := Aside0.mk (blk_below (g := gb184) (o := .cells #[.int .i8 a1_0, .int .i8 a1_1, .int .i8 a1_2, .int .i8 a1_3, .int .i8 a1_4, .int .i8 a1_5, .int .i8 a1_6, .int .i8 a1_7, .int .i8 a1_8, .int .i8 a1_9, .int .i8 a1_10, .int .i8 a1_11, .int .i8 a1_12, .int .i8 a1_13, .int .i8 a1_14, .int .i8 a1_15, .int .i8 a1_16, .int .i8 a1_17, .int .i8 a1_18, .int .i8 a1_19, .int .i8 a1_20, .int .i8 a1_21, .int .i8 a1_22, .int .i8 a1_23, .int .i8 a1_24, .int .i8 a1_25, .int .i8 a1_26, .int .i8 a1_27, .slice A1_28 l1_28.length c1_28] 32 (0, 0)) (by (with_reducible repeat (first | refine blk_drewN ?_ _ | refine blk_drew ?_ | refine blk_alloc ?_ _)); exact BK184.out) hb); have n2_ := Aside0.mk (below_step (by repeat (first | (with_reducible first | exact HB.out | apply below_alloc | apply pw_below_drewN | apply below_drew1 | refine below_set ?_ GE183.out | refine below_set ?_ GE184.out) | exact HB.out)) hb); clear BK183; clear BK184; clear HB; have BK183 := n0_; have BK184 := n1_; have HB := n2_; clear n0_ n1_ n2_; (try clear hb); (try clear hb2); (try clear hk); (try clear hi); have hnb12 := NB183_184.out; have hnc12 := NB184_183.out; have hcz13_26 : w11.cell? ⟨gb183, 26, none⟩ = some (.int .i8 a0_26) := (blk_cell BK183.out 26).trans rfl; have hcz13_27 : w11.cell? ⟨gb183, 27, none⟩ = some (.int .i8 a0_27) := (blk_cell BK183.out 27).trans rfl; have hcz13_28 : w11.cell? ⟨gb183, 28, none⟩ = some (.slice A0_28 l0_28.length c0_28) := (blk_cell BK183.out 28).trans rfl; have hfz13_26 := blk_frozen BK183.out 26; have hfz13_27 := blk_frozen BK183.out 27; have hfz13_28 := blk_frozen BK183.out 28; have hcz14_26 : w11.cell? ⟨gb184, 26, none⟩ = some (.int .i8 a1_26) := (blk_cell BK184.out 26).trans rfl; have hcz14_27 : w11.cell? ⟨gb184, 27, none⟩ = some (.int .i8 a1_27) := (blk_cell BK184.out 27).trans rfl; have hcz14_28 : w11.cell? ⟨gb184, 28, none⟩ = some (.slice A1_28 l1_28.length c1_28) := (blk_cell BK184.out 28).trans rfl; have hfz14_26 := blk_frozen BK184.out 26; have hfz14_27 := blk_frozen BK184.out 27; have hfz14_28 := blk_frozen BK184.out 28) | ((with_reducible refine gate_callee (f := 72) rfl ?_); refine goesL_ (some 25) rfl rfl Tryd.func72 (by kernel_rfl) rfl #[.slice A0_28 l0_28.length c0_28, .slice A1_28 l1_28.length c1_28] rfl (by (try simp only [List.map_toArray, List.map_cons, List.map_nil]); first | done | rfl | (simp only [List.length_drop, List.length_take]; rfl)) ?_; (with_reducible refine (laws_eqPairS.calls k _ _ l0_28 _ _ l1_28 true _ ?side1 ?side2 ?side3 ?side4 A7.out).mono ?_); (case side1 => repeat (first | exact (Kd.C_below HR0_28.out HB.out) | (with_reducible refine Kd.C_alloc ?_ _) | (with_reducible refine Kd.C_drewN ?_ _) | (with_reducible refine Kd.C_drew ?_))); (case side2 => exact HC0_28.out); (case side3 => repeat (first | exact (Kd.C_below HR1_28.out HB.out) | (with_reducible refine Kd.C_alloc ?_ _) | (with_reducible refine Kd.C_drewN ?_ _) | (with_reducible refine Kd.C_drew ?_))); (case side4 => exact HC1_28.out); rintro e w15 ⟨rfl, hb⟩; refine ⟨_, rfl, ?_⟩; have n0_ := Aside0.mk (blk_below (g := gb183) (o := .cells #[.int .i8 a0_0, .int .i8 a0_1, .int .i8 a0_2, .int .i8 a0_3, .int .i8 a0_4, .int .i8 a0_5, .int .i8 a0_6, .int .i8 a0_7, .int .i8 a0_8, .int .i8 a0_9, .int .i8 a0_10, .int .i8 a0_11, .int .i8 a0_12, .int .i8 a0_13, .int .i8 a0_14, .int .i8 a0_15, .int .i8 a0_16, .int .i8 a0_17, .int .i8 a0_18, .int .i8 a0_19, .int .i8 a0_20, .int .i8 a0_21, .int .i8 a0_22, .int .i8 a0_23, .int .i8 a0_24, .int .i8 a0_25, .int .i8 a0_26, .int .i8 a0_27, .slice A0_28 l0_28.length c0_28] 32 (0, 0)) (by (with_reducible repeat (first | refine blk_drewN ?_ _ | refine blk_drew ?_ | refine blk_alloc ?_ _)); exact BK183.out) hb); have n1_ := Aside0.mk (blk_below (g := gb184) (o := .cells #[.int .i8 a1_0, .int .i8 a1_1, .int .i8 a1_2, .int .i8 a1_3, .int .i8 a1_4, .int .i8 a1_5, .int .i8 a1_6, .int .i8 a1_7, .int .i8 a1_8, .int .i8 a1_9, .int .i8 a1_10, .int .i8 a1_11, .int .i8 a1_12, .int .i8 a1_13, .int .i8 a1_14, .int .i8 a1_15, .int .i8 a1_16, .int .i8 a1_17, .int .i8 a1_18, .int .i8 a1_19, .int .i8 a1_20, .int .i8 a1_21, .int .i8 a1_22, .int .i8 a1_23, .int .i8 a1_24, .int .i8 a1_25, .int .i8 a1_26, .int .i8 a1_27, .slice A1_28 l1_28.length c1_28] 32 (0, 0)) (by (with_reducible repeat (first | refine blk_drewN ?_ _ | refine blk_drew ?_ | refine blk_alloc ?_ _)); exact BK184.out) hb); have n2_ := Aside0.mk (below_step (by repeat (first | (with_reducible first | exact HB.out | apply below_alloc | apply pw_below_drewN | apply below_drew1 | refine below_set ?_ GE183.out | refine below_set ?_ GE184.out) | exact HB.out)) hb); clear BK183; clear BK184; clear HB; have BK183 := n0_; have BK184 := n1_; have HB := n2_; clear n0_ n1_ n2_; (try clear hb); (try clear hb2); (try clear hk); (try clear hi)))
          go_ret
          exact ⟨by first | rfl | (simp [errW_none, errW_some] <;> rfl) | (simp [*, errW_none, errW_some] <;> rfl), by repeat (first | (with_reducible first | exact HB.out | apply below_alloc | apply pw_below_drewN | apply below_drew1 | refine below_set ?_ GE183.out | refine below_set ?_ GE184.out) | exact HB.out)⟩
        · replace c8 := Bool.eq_false_iff.mpr c8
          subst c8
          have H1 : (some false) = some r := by rw [if_neg (show ¬ (false = true) by decide)] at H; exact H
          clear H
          have H := H1
          clear H1
          obtain rfl := Option.some.inj H
          go_enter Tryd.func22, Tryd.ntmps22
          go_wp2_with (first | ((with_reducible refine gate_dst (N := 2) rfl ?_); refine box_event ?hg (N := 2) ?hd (cs := #[.int .i8 a0_0, .int .i8 a0_1, .int .i8 a0_2, .int .i8 a0_3, .int .i8 a0_4, .int .i8 a0_5, .int .i8 a0_6, .int .i8 a0_7, .int .i8 a0_8, .int .i8 a0_9, .int .i8 a0_10, .int .i8 a0_11, .int .i8 a0_12, .int .i8 a0_13, .int .i8 a0_14, .int .i8 a0_15, .int .i8 a0_16, .int .i8 a0_17, .int .i8 a0_18, .int .i8 a0_19, .int .i8 a0_20, .int .i8 a0_21, .int .i8 a0_22, .int .i8 a0_23, .int .i8 a0_24, .int .i8 a0_25, .int .i8 a0_26, .int .i8 a0_27, .slice A0_28 l0_28.length c0_28]) (t := 32) ?hr ?_; (case hd => rfl); (case hg => rfl); (case hr => first | (go_simp; done) | (go_simp; rfl)); intro gb183 hg w16 hbox hb; have n0_ := Aside0.mk (below_step (by repeat (first | (with_reducible first | exact HB.out | apply below_alloc | apply pw_below_drewN | apply below_drew1) | exact HB.out)) hb); have n1_ := Aside0.mk (hbox); have n2_ := Aside0.mk ((by rw [hg]; exact (below_size (by repeat (first | (with_reducible first | exact HB.out | apply below_alloc | apply pw_below_drewN | apply below_drew1) | exact HB.out))) : w.heap.size ≤ gb183)); have n3_ := Aside0.mk ((by rw [hg]; exact (below_size (by repeat (first | (with_reducible first | exact HB.out | apply below_alloc | apply pw_below_drewN | apply below_drew1) | exact HB.out))) : w.heap.size ≤ gb183)); clear HB; have HB := n0_; have BK183 := n1_; have GW183 := n2_; have GE183 := n3_; clear n0_ n1_ n2_ n3_; clear hb hbox hg) | ((with_reducible refine gate_dst (N := 3) rfl ?_); refine box_event ?hg (N := 3) ?hd (cs := #[.int .i8 a1_0, .int .i8 a1_1, .int .i8 a1_2, .int .i8 a1_3, .int .i8 a1_4, .int .i8 a1_5, .int .i8 a1_6, .int .i8 a1_7, .int .i8 a1_8, .int .i8 a1_9, .int .i8 a1_10, .int .i8 a1_11, .int .i8 a1_12, .int .i8 a1_13, .int .i8 a1_14, .int .i8 a1_15, .int .i8 a1_16, .int .i8 a1_17, .int .i8 a1_18, .int .i8 a1_19, .int .i8 a1_20, .int .i8 a1_21, .int .i8 a1_22, .int .i8 a1_23, .int .i8 a1_24, .int .i8 a1_25, .int .i8 a1_26, .int .i8 a1_27, .slice A1_28 l1_28.length c1_28]) (t := 32) ?hr ?_; (case hd => rfl); (case hg => rfl); (case hr => first | (go_simp; done) | (go_simp; rfl)); intro gb184 hg w17 hbox hb; have n0_ := Aside0.mk (blk_below (g := gb183) (o := .cells #[.int .i8 a0_0, .int .i8 a0_1, .int .i8 a0_2, .int .i8 a0_3, .int .i8 a0_4, .int .i8 a0_5, .int .i8 a0_6, .int .i8 a0_7, .int .i8 a0_8, .int .i8 a0_9, .int .i8 a0_10, .int .i8 a0_11, .int .i8 a0_12, .int .i8 a0_13, .int .i8 a0_14, .int .i8 a0_15, .int .i8 a0_16, .int .i8 a0_17, .int .i8 a0_18, .int .i8 a0_19, .int .i8 a0_20, .int .i8 a0_21, .int .i8 a0_22, .int .i8 a0_23, .int .i8 a0_24, .int .i8 a0_25, .int .i8 a0_26, .int .i8 a0_27, .slice A0_28 l0_28.length c0_28] 32 (0, 0)) (by (with_reducible repeat (first | refine blk_drewN ?_ _ | refine blk_drew ?_ | refine blk_alloc ?_ _)); exact BK183.out) hb); have n1_ := Aside0.mk (below_step (by repeat (first | (with_reducible first | exact HB.out | apply below_alloc | apply pw_below_drewN | apply below_drew1 | refine below_set ?_ GE183.out) | exact HB.out)) hb); have n2_ := Aside0.mk (hbox); have n3_ := Aside0.mk ((by rw [hg]; exact (below_size (by repeat (first | (with_reducible first | exact HB.out | apply below_alloc | apply pw_below_drewN | apply below_drew1 | refine below_set ?_ GE183.out) | exact HB.out))) : w.heap.size ≤ gb184)); have n4_ := Aside0.mk ((by rw [hg]; exact (below_size (by repeat (first | (with_reducible first | exact HB.out | apply below_alloc | apply pw_below_drewN | apply below_drew1 | refine below_set ?_ GE183.out) | exact HB.out))) : w.heap.size ≤ gb184)); have n5_ := Aside0.mk ((by rw [hg]; exact Nat.ne_of_lt (blk_lt (g := gb183) (o := .cells #[.int .i8 a0_0, .int .i8 a0_1, .int .i8 a0_2, .int .i8 a0_3, .int .i8 a0_4, .int .i8 a0_5, .int .i8 a0_6, .int .i8 a0_7, .int .i8 a0_8, .int .i8 a0_9, .int .i8 a0_10, .int .i8 a0_11, .int .i8 a0_12, .int .i8 a0_13, .int .i8 a0_14, .int .i8 a0_15, .int .i8 a0_16, .int .i8 a0_17, .int .i8 a0_18, .int .i8 a0_19, .int .i8 a0_20, .int .i8 a0_21, .int .i8 a0_22, .int .i8 a0_23, .int .i8 a0_24, .int .i8 a0_25, .int .i8 a0_26, .int .i8 a0_27, .slice A0_28 l0_28.length c0_28] 32 (0, 0)) (by (with_reducible repeat (first | refine blk_drewN ?_ _ | refine blk_drew ?_ | refine blk_alloc ?_ _)); exact BK183.out)) : gb183 ≠ gb184)); have n6_ := Aside0.mk ((by rw [hg]; exact Nat.ne_of_gt (blk_lt (g := gb183) (o := .cells #[.int .i8 a0_0, .int .i8 a0_1, .int .i8 a0_2, .int .i8 a0_3, .int .i8 a0_4, .int .i8 a0_5, .int .i8 a0_6, .int .i8 a0_7, .int .i8 a0_8, .int .i8 a0_9, .int .i8 a0_10, .int .i8 a0_11, .int .i8 a0_12, .int .i8 a0_13, .int .i8 a0_14, .int .i8 a0_15, .int .i8 a0_16, .int .i8 a0_17, .int .i8 a0_18, .int .i8 a0_19, .int .i8 a0_20, .int .i8 a0_21, .int .i8 a0_22, .int .i8 a0_23, .int .i8 a0_24, .int .i8 a0_25, .int .i8 a0_26, .int .i8 a0_27, .slice A0_28 l0_28.length c0_28] 32 (0, 0)) (by (with_reducible repeat (first | refine blk_drewN ?_ _ | refine blk_drew ?_ | refine blk_alloc ?_ _)); exact BK183.out)) : gb184 ≠ gb183)); clear BK183; clear HB; have BK183 := n0_; have HB := n1_; have BK184 := n2_; have GW184 := n3_; have GE184 := n4_; have NB183_184 := n5_; have NB184_183 := n6_; clear n0_ n1_ n2_ n3_ n4_ n5_ n6_; clear hb hbox hg) | ((with_reducible refine gate_dst (N := 6) rfl ?_); refine wpList_load_mid rfl 23 (.tmp 5) rfl gb183 0 rfl [.int .i8 a0_0, .int .i8 a0_1, .int .i8 a0_2, .int .i8 a0_3, .int .i8 a0_4, .int .i8 a0_5, .int .i8 a0_6, .int .i8 a0_7, .int .i8 a0_8, .int .i8 a0_9, .int .i8 a0_10, .int .i8 a0_11, .int .i8 a0_12, .int .i8 a0_13, .int .i8 a0_14, .int .i8 a0_15, .int .i8 a0_16, .int .i8 a0_17, .int .i8 a0_18, .int .i8 a0_19, .int .i8 a0_20, .int .i8 a0_21, .int .i8 a0_22, .int .i8 a0_23, .int .i8 a0_24, .int .i8 a0_25] _ (range_partx_ [] [.int .i8 a0_0, .int .i8 a0_1, .int .i8 a0_2, .int .i8 a0_3, .int .i8 a0_4, .int .i8 a0_5, .int .i8 a0_6, .int .i8 a0_7, .int .i8 a0_8, .int .i8 a0_9, .int .i8 a0_10, .int .i8 a0_11, .int .i8 a0_12, .int .i8 a0_13, .int .i8 a0_14, .int .i8 a0_15, .int .i8 a0_16, .int .i8 a0_17, .int .i8 a0_18, .int .i8 a0_19, .int .i8 a0_20, .int .i8 a0_21, .int .i8 a0_22, .int .i8 a0_23, .int .i8 a0_24, .int .i8 a0_25] [.int .i8 a0_26, .int .i8 a0_27, .slice A0_28 l0_28.length c0_28] 0 rfl (by (with_reducible repeat (first | refine blk_drewN ?_ _ | refine blk_drew ?_ | refine blk_alloc ?_ _)); exact BK183.out)) Tryd.underlying23 rfl (by exact (show (Tryd.prog.info? 23).map (·.size) = some 26 by kernel_rfl)) ?_) | ((with_reducible refine gate_dst (N := 8) rfl ?_); refine wpList_load_mid rfl 23 (.tmp 7) rfl gb184 0 rfl [.int .i8 a1_0, .int .i8 a1_1, .int .i8 a1_2, .int .i8 a1_3, .int .i8 a1_4, .int .i8 a1_5, .int .i8 a1_6, .int .i8 a1_7, .int .i8 a1_8, .int .i8 a1_9, .int .i8 a1_10, .int .i8 a1_11, .int .i8 a1_12, .int .i8 a1_13, .int .i8 a1_14, .int .i8 a1_15, .int .i8 a1_16, .int .i8 a1_17, .int .i8 a1_18, .int .i8 a1_19, .int .i8 a1_20, .int .i8 a1_21, .int .i8 a1_22, .int .i8 a1_23, .int .i8 a1_24, .int .i8 a1_25] _ (range_partx_ [] [.int .i8 a1_0, .int .i8 a1_1, .int .i8 a1_2, .int .i8 a1_3, .int .i8 a1_4, .int .i8 a1_5, .int .i8 a1_6, .int .i8 a1_7, .int .i8 a1_8, .int .i8 a1_9, .int .i8 a1_10, .int .i8 a1_11, .int .i8 a1_12, .int .i8 a1_13, .int .i8 a1_14, .int .i8 a1_15, .int .i8 a1_16, .int .i8 a1_17, .int .i8 a1_18, .int .i8 a1_19, .int .i8 a1_20, .int .i8 a1_21, .int .i8 a1_22, .int .i8 a1_23, .int .i8 a1_24, .int .i8 a1_25] [.int .i8 a1_26, .int .i8 a1_27, .slice A1_28 l1_28.length c1_28] 0 rfl (by (with_reducible repeat (first | refine blk_drewN ?_ _ | refine blk_drew ?_ | refine blk_alloc ?_ _)); exact BK184.out)) Tryd.underlying23 rfl (by exact (show (Tryd.prog.info? 23).map (·.size) = some 26 by kernel_rfl)) ?_) | ((with_reducible refine gate_callee (f := 71) rfl ?_); refine goesL_ (some 9) rfl rfl Tryd.func71 (by kernel_rfl) rfl #[.agg #[.int .i8 a0_0, .int .i8 a0_1, .int .i8 a0_2, .int .i8 a0_3, .int .i8 a0_4, .int .i8 a0_5, .int .i8 a0_6, .int .i8 a0_7, .int .i8 a0_8, .int .i8 a0_9, .int .i8 a0_10, .int .i8 a0_11, .int .i8 a0_12, .int .i8 a0_13, .int .i8 a0_14, .int .i8 a0_15, .int .i8 a0_16, .int .i8 a0_17, .int .i8 a0_18, .int .i8 a0_19, .int .i8 a0_20, .int .i8 a0_21, .int .i8 a0_22, .int .i8 a0_23, .int .i8 a0_24, .int .i8 a0_25], .agg #[.int .i8 a1_0, .int .i8 a1_1, .int .i8 a1_2, .int .i8 a1_3, .int .i8 a1_4, .int .i8 a1_5, .int .i8 a1_6, .int .i8 a1_7, .int .i8 a1_8, .int .i8 a1_9, .int .i8 a1_10, .int .i8 a1_11, .int .i8 a1_12, .int .i8 a1_13, .int .i8 a1_14, .int .i8 a1_15, .int .i8 a1_16, .int .i8 a1_17, .int .i8 a1_18, .int .i8 a1_19, .int .i8 a1_20, .int .i8 a1_21, .int .i8 a1_22, .int .i8 a1_23, .int .i8 a1_24, .int .i8 a1_25]] rfl (by (try simp only [List.map_toArray, List.map_cons, List.map_nil]); first | done | rfl | (simp only [List.length_drop, List.length_take]; rfl)) ?_; (with_reducible refine (laws_eqInt8A26.calls k a0_0 a0_1 a0_2 a0_3 a0_4 a0_5 a0_6 a0_7 a0_8 a0_9 a0_10 a0_11 a0_12 a0_13 a0_14 a0_15 a0_16 a0_17 a0_18 a0_19 a0_20 a0_21 a0_22 a0_23 a0_24 a0_25 a1_0 a1_1 a1_2 a1_3 a1_4 a1_5 a1_6 a1_7 a1_8 a1_9 a1_10 a1_11 a1_12 a1_13 a1_14 a1_15 a1_16 a1_17 a1_18 a1_19 a1_20 a1_21 a1_22 a1_23 a1_24 a1_25 true _ A3.out).mono ?_); rintro e w18 ⟨rfl, hb⟩; refine ⟨_, rfl, ?_⟩; have n0_ := Aside0.mk (blk_below (g := gb183) (o := .cells #[.int .i8 a0_0, .int .i8 a0_1, .int .i8 a0_2, .int .i8 a0_3, .int .i8 a0_4, .int .i8 a0_5, .int .i8 a0_6, .int .i8 a0_7, .int .i8 a0_8, .int .i8 a0_9, .int .i8 a0_10, .int .i8 a0_11, .int .i8 a0_12, .int .i8 a0_13, .int .i8 a0_14, .int .i8 a0_15, .int .i8 a0_16, .int .i8 a0_17, .int .i8 a0_18, .int .i8 a0_19, .int .i8 a0_20, .int .i8 a0_21, .int .i8 a0_22, .int .i8 a0_23, .int .i8 a0_24, .int .i8 a0_25, .int .i8 a0_26, .int .i8 a0_27, .slice A0_28 l0_28.length c0_28] 32 (0, 0)) (by (with_reducible repeat (first | refine blk_drewN ?_ _ | refine blk_drew ?_ | refine blk_alloc ?_ _)); exact BK183.out) hb); have n1_ := Aside0.mk (blk_below (g := gb184) (o := .cells #[.int .i8 a1_0, .int .i8 a1_1, .int .i8 a1_2, .int .i8 a1_3, .int .i8 a1_4, .int .i8 a1_5, .int .i8 a1_6, .int .i8 a1_7, .int .i8 a1_8, .int .i8 a1_9, .int .i8 a1_10, .int .i8 a1_11, .int .i8 a1_12, .int .i8 a1_13, .int .i8 a1_14, .int .i8 a1_15, .int .i8 a1_16, .int .i8 a1_17, .int .i8 a1_18, .int .i8 a1_19, .int .i8 a1_20, .int .i8 a1_21, .int .i8 a1_22, .int .i8 a1_23, .int .i8 a1_24, .int .i8 a1_25, .int .i8 a1_26, .int .i8 a1_27, .slice A1_28 l1_28.length c1_28] 32 (0, 0)) (by (with_reducible repeat (first | refine blk_drewN ?_ _ | refine blk_drew ?_ | refine blk_alloc ?_ _)); exact BK184.out) hb); have n2_ := Aside0.mk (below_step (by repeat (first | (with_reducible first | exact HB.out | apply below_alloc | apply pw_below_drewN | apply below_drew1 | refine below_set ?_ GE183.out | refine below_set ?_ GE184.out) | exact HB.out)) hb); clear BK183; clear BK184; clear HB; have BK183 := n0_; have BK184 := n1_; have HB := n2_; clear n0_ n1_ n2_; (try clear hb); (try clear hb2); (try clear hk); (try clear hi); have hnb19 := NB183_184.out; have hnc19 := NB184_183.out; have hcz20_26 : w18.cell? ⟨gb183, 26, none⟩ = some (.int .i8 a0_26) := (blk_cell BK183.out 26).trans rfl; have hcz20_27 : w18.cell? ⟨gb183, 27, none⟩ = some (.int .i8 a0_27) := (blk_cell BK183.out 27).trans rfl; have hcz20_28 : w18.cell? ⟨gb183, 28, none⟩ = some (.slice A0_28 l0_28.length c0_28) := (blk_cell BK183.out 28).trans rfl; have hfz20_26 := blk_frozen BK183.out 26; have hfz20_27 := blk_frozen BK183.out 27; have hfz20_28 := blk_frozen BK183.out 28; have hcz21_26 : w18.cell? ⟨gb184, 26, none⟩ = some (.int .i8 a1_26) := (blk_cell BK184.out 26).trans rfl; have hcz21_27 : w18.cell? ⟨gb184, 27, none⟩ = some (.int .i8 a1_27) := (blk_cell BK184.out 27).trans rfl; have hcz21_28 : w18.cell? ⟨gb184, 28, none⟩ = some (.slice A1_28 l1_28.length c1_28) := (blk_cell BK184.out 28).trans rfl; have hfz21_26 := blk_frozen BK184.out 26; have hfz21_27 := blk_frozen BK184.out 27; have hfz21_28 := blk_frozen BK184.out 28) | ((with_reducible refine gate_callee (f := 72) rfl ?_); refine goesL_ (some 25) rfl rfl Tryd.func72 (by kernel_rfl) rfl #[.slice A0_28 l0_28.length c0_28, .slice A1_28 l1_28.length c1_28] rfl (by (try simp only [List.map_toArray, List.map_cons, List.map_nil]); first | done | rfl | (simp only [List.length_drop, List.length_take]; rfl)) ?_; (with_reducible refine (laws_eqPairS.calls k _ _ l0_28 _ _ l1_28 false _ ?side1 ?side2 ?side3 ?side4 A7.out).mono ?_); (case side1 => repeat (first | exact (Kd.C_below HR0_28.out HB.out) | (with_reducible refine Kd.C_alloc ?_ _) | (with_reducible refine Kd.C_drewN ?_ _) | (with_reducible refine Kd.C_drew ?_))); (case side2 => exact HC0_28.out); (case side3 => repeat (first | exact (Kd.C_below HR1_28.out HB.out) | (with_reducible refine Kd.C_alloc ?_ _) | (with_reducible refine Kd.C_drewN ?_ _) | (with_reducible refine Kd.C_drew ?_))); (case side4 => exact HC1_28.out); rintro e w22 ⟨rfl, hb⟩; refine ⟨_, rfl, ?_⟩; have n0_ := Aside0.mk (blk_below (g := gb183) (o := .cells #[.int .i8 a0_0, .int .i8 a0_1, .int .i8 a0_2, .int .i8 a0_3, .int .i8 a0_4, .int .i8 a0_5, .int .i8 a0_6, .int .i8 a0_7, .int .i8 a0_8, .int .i8 a0_9, .int .i8 a0_10, .int .i8 a0_11, .int .i8 a0_12, .int .i8 a0_13, .int .i8 a0_14, .int .i8 a0_15, .int .i8 a0_16, .int .i8 a0_17, .int .i8 a0_18, .int .i8 a0_19, .int .i8 a0_20, .int .i8 a0_21, .int .i8 a0_22, .int .i8 a0_23, .int .i8 a0_24, .int .i8 a0_25, .int .i8 a0_26, .int .i8 a0_27, .slice A0_28 l0_28.length c0_28] 32 (0, 0)) (by (with_reducible repeat (first | refine blk_drewN ?_ _ | refine blk_drew ?_ | refine blk_alloc ?_ _)); exact BK183.out) hb); have n1_ := Aside0.mk (blk_below (g := gb184) (o := .cells #[.int .i8 a1_0, .int .i8 a1_1, .int .i8 a1_2, .int .i8 a1_3, .int .i8 a1_4, .int .i8 a1_5, .int .i8 a1_6, .int .i8 a1_7, .int .i8 a1_8, .int .i8 a1_9, .int .i8 a1_10, .int .i8 a1_11, .int .i8 a1_12, .int .i8 a1_13, .int .i8 a1_14, .int .i8 a1_15, .int .i8 a1_16, .int .i8 a1_17, .int .i8 a1_18, .int .i8 a1_19, .int .i8 a1_20, .int .i8 a1_21, .int .i8 a1_22, .int .i8 a1_23, .int .i8 a1_24, .int .i8 a1_25, .int .i8 a1_26, .int .i8 a1_27, .slice A1_28 l1_28.length c1_28] 32 (0, 0)) (by (with_reducible repeat (first | refine blk_drewN ?_ _ | refine blk_drew ?_ | refine blk_alloc ?_ _)); exact BK184.out) hb); have n2_ := Aside0.mk (below_step (by repeat (first | (with_reducible first | exact HB.out | apply below_alloc | apply pw_below_drewN | apply below_drew1 | refine below_set ?_ GE183.out | refine below_set ?_ GE184.out) | exact HB.out)) hb); clear BK183; clear BK184; clear HB; have BK183 := n0_; have BK184 := n1_; have HB := n2_; clear n0_ n1_ n2_; (try clear hb); (try clear hb2); (try clear hk); (try clear hi)))
          go_ret
          exact ⟨by first | rfl | (simp [errW_none, errW_some] <;> rfl) | (simp [*, errW_none, errW_some] <;> rfl), by repeat (first | (with_reducible first | exact HB.out | apply below_alloc | apply pw_below_drewN | apply below_drew1 | refine below_set ?_ GE183.out | refine below_set ?_ GE184.out) | exact HB.out)⟩
      · rw [if_neg c6] at H
        have c6b0 : (a0_27 == a1_27) = false := beq_eq_false_iff_ne.mpr c6
        have c6b1 : (a0_27 != a1_27) = true := bne_iff_ne.mpr c6
        obtain rfl := Option.some.inj H
        go_enter Tryd.func22, Tryd.ntmps22
        go_wp2_with (first | ((with_reducible refine gate_dst (N := 2) rfl ?_); refine box_event ?hg (N := 2) ?hd (cs := #[.int .i8 a0_0, .int .i8 a0_1, .int .i8 a0_2, .int .i8 a0_3, .int .i8 a0_4, .int .i8 a0_5, .int .i8 a0_6, .int .i8 a0_7, .int .i8 a0_8, .int .i8 a0_9, .int .i8 a0_10, .int .i8 a0_11, .int .i8 a0_12, .int .i8 a0_13, .int .i8 a0_14, .int .i8 a0_15, .int .i8 a0_16, .int .i8 a0_17, .int .i8 a0_18, .int .i8 a0_19, .int .i8 a0_20, .int .i8 a0_21, .int .i8 a0_22, .int .i8 a0_23, .int .i8 a0_24, .int .i8 a0_25, .int .i8 a0_26, .int .i8 a0_27, .slice A0_28 l0_28.length c0_28]) (t := 32) ?hr ?_; (case hd => rfl); (case hg => rfl); (case hr => first | (go_simp; done) | (go_simp; rfl)); intro gb183 hg w23 hbox hb; have n0_ := Aside0.mk (below_step (by repeat (first | (with_reducible first | exact HB.out | apply below_alloc | apply pw_below_drewN | apply below_drew1) | exact HB.out)) hb); have n1_ := Aside0.mk (hbox); have n2_ := Aside0.mk ((by rw [hg]; exact (below_size (by repeat (first | (with_reducible first | exact HB.out | apply below_alloc | apply pw_below_drewN | apply below_drew1) | exact HB.out))) : w.heap.size ≤ gb183)); have n3_ := Aside0.mk ((by rw [hg]; exact (below_size (by repeat (first | (with_reducible first | exact HB.out | apply below_alloc | apply pw_below_drewN | apply below_drew1) | exact HB.out))) : w.heap.size ≤ gb183)); clear HB; have HB := n0_; have BK183 := n1_; have GW183 := n2_; have GE183 := n3_; clear n0_ n1_ n2_ n3_; clear hb hbox hg) | ((with_reducible refine gate_dst (N := 3) rfl ?_); refine box_event ?hg (N := 3) ?hd (cs := #[.int .i8 a1_0, .int .i8 a1_1, .int .i8 a1_2, .int .i8 a1_3, .int .i8 a1_4, .int .i8 a1_5, .int .i8 a1_6, .int .i8 a1_7, .int .i8 a1_8, .int .i8 a1_9, .int .i8 a1_10, .int .i8 a1_11, .int .i8 a1_12, .int .i8 a1_13, .int .i8 a1_14, .int .i8 a1_15, .int .i8 a1_16, .int .i8 a1_17, .int .i8 a1_18, .int .i8 a1_19, .int .i8 a1_20, .int .i8 a1_21, .int .i8 a1_22, .int .i8 a1_23, .int .i8 a1_24, .int .i8 a1_25, .int .i8 a1_26, .int .i8 a1_27, .slice A1_28 l1_28.length c1_28]) (t := 32) ?hr ?_; (case hd => rfl); (case hg => rfl); (case hr => first | (go_simp; done) | (go_simp; rfl)); intro gb184 hg w24 hbox hb; have n0_ := Aside0.mk (blk_below (g := gb183) (o := .cells #[.int .i8 a0_0, .int .i8 a0_1, .int .i8 a0_2, .int .i8 a0_3, .int .i8 a0_4, .int .i8 a0_5, .int .i8 a0_6, .int .i8 a0_7, .int .i8 a0_8, .int .i8 a0_9, .int .i8 a0_10, .int .i8 a0_11, .int .i8 a0_12, .int .i8 a0_13, .int .i8 a0_14, .int .i8 a0_15, .int .i8 a0_16, .int .i8 a0_17, .int .i8 a0_18, .int .i8 a0_19, .int .i8 a0_20, .int .i8 a0_21, .int .i8 a0_22, .int .i8 a0_23, .int .i8 a0_24, .int .i8 a0_25, .int .i8 a0_26, .int .i8 a0_27, .slice A0_28 l0_28.length c0_28] 32 (0, 0)) (by (with_reducible repeat (first | refine blk_drewN ?_ _ | refine blk_drew ?_ | refine blk_alloc ?_ _)); exact BK183.out) hb); have n1_ := Aside0.mk (below_step (by repeat (first | (with_reducible first | exact HB.out | apply below_alloc | apply pw_below_drewN | apply below_drew1 | refine below_set ?_ GE183.out) | exact HB.out)) hb); have n2_ := Aside0.mk (hbox); have n3_ := Aside0.mk ((by rw [hg]; exact (below_size (by repeat (first | (with_reducible first | exact HB.out | apply below_alloc | apply pw_below_drewN | apply below_drew1 | refine below_set ?_ GE183.out) | exact HB.out))) : w.heap.size ≤ gb184)); have n4_ := Aside0.mk ((by rw [hg]; exact (below_size (by repeat (first | (with_reducible first | exact HB.out | apply below_alloc | apply pw_below_drewN | apply below_drew1 | refine below_set ?_ GE183.out) | exact HB.out))) : w.heap.size ≤ gb184)); have n5_ := Aside0.mk ((by rw [hg]; exact Nat.ne_of_lt (blk_lt (g := gb183) (o := .cells #[.int .i8 a0_0, .int .i8 a0_1, .int .i8 a0_2, .int .i8 a0_3, .int .i8 a0_4, .int .i8 a0_5, .int .i8 a0_6, .int .i8 a0_7, .int .i8 a0_8, .int .i8 a0_9, .int .i8 a0_10, .int .i8 a0_11, .int .i8 a0_12, .int .i8 a0_13, .int .i8 a0_14, .int .i8 a0_15, .int .i8 a0_16, .int .i8 a0_17, .int .i8 a0_18, .int .i8 a0_19, .int .i8 a0_20, .int .i8 a0_21, .int .i8 a0_22, .int .i8 a0_23, .int .i8 a0_24, .int .i8 a0_25, .int .i8 a0_26, .int .i8 a0_27, .slice A0_28 l0_28.length c0_28] 32 (0, 0)) (by (with_reducible repeat (first | refine blk_drewN ?_ _ | refine blk_drew ?_ | refine blk_alloc ?_ _)); exact BK183.out)) : gb183 ≠ gb184)); have n6_ := Aside0.mk ((by rw [hg]; exact Nat.ne_of_gt (blk_lt (g := gb183) (o := .cells #[.int .i8 a0_0, .int .i8 a0_1, .int .i8 a0_2, .int .i8 a0_3, .int .i8 a0_4, .int .i8 a0_5, .int .i8 a0_6, .int .i8 a0_7, .int .i8 a0_8, .int .i8 a0_9, .int .i8 a0_10, .int .i8 a0_11, .int .i8 a0_12, .int .i8 a0_13, .int .i8 a0_14, .int .i8 a0_15, .int .i8 a0_16, .int .i8 a0_17, .int .i8 a0_18, .int .i8 a0_19, .int .i8 a0_20, .int .i8 a0_21, .int .i8 a0_22, .int .i8 a0_23, .int .i8 a0_24, .int .i8 a0_25, .int .i8 a0_26, .int .i8 a0_27, .slice A0_28 l0_28.length c0_28] 32 (0, 0)) (by (with_reducible repeat (first | refine blk_drewN ?_ _ | refine blk_drew ?_ | refine blk_alloc ?_ _)); exact BK183.out)) : gb184 ≠ gb183)); clear BK183; clear HB; have BK183 := n0_; have HB := n1_; have BK184 := n2_; have GW184 := n3_; have GE184 := n4_; have NB183_184 := n5_; have NB184_183 := n6_; clear n0_ n1_ n2_ n3_ n4_ n5_ n6_; clear hb hbox hg) | ((with_reducible refine gate_dst (N := 6) rfl ?_); refine wpList_load_mid rfl 23 (.tmp 5) rfl gb183 0 rfl [.int .i8 a0_0, .int .i8 a0_1, .int .i8 a0_2, .int .i8 a0_3, .int .i8 a0_4, .int .i8 a0_5, .int .i8 a0_6, .int .i8 a0_7, .int .i8 a0_8, .int .i8 a0_9, .int .i8 a0_10, .int .i8 a0_11, .int .i8 a0_12, .int .i8 a0_13, .int .i8 a0_14, .int .i8 a0_15, .int .i8 a0_16, .int .i8 a0_17, .int .i8 a0_18, .int .i8 a0_19, .int .i8 a0_20, .int .i8 a0_21, .int .i8 a0_22, .int .i8 a0_23, .int .i8 a0_24, .int .i8 a0_25] _ (range_partx_ [] [.int .i8 a0_0, .int .i8 a0_1, .int .i8 a0_2, .int .i8 a0_3, .int .i8 a0_4, .int .i8 a0_5, .int .i8 a0_6, .int .i8 a0_7, .int .i8 a0_8, .int .i8 a0_9, .int .i8 a0_10, .int .i8 a0_11, .int .i8 a0_12, .int .i8 a0_13, .int .i8 a0_14, .int .i8 a0_15, .int .i8 a0_16, .int .i8 a0_17, .int .i8 a0_18, .int .i8 a0_19, .int .i8 a0_20, .int .i8 a0_21, .int .i8 a0_22, .int .i8 a0_23, .int .i8 a0_24, .int .i8 a0_25] [.int .i8 a0_26, .int .i8 a0_27, .slice A0_28 l0_28.length c0_28] 0 rfl (by (with_reducible repeat (first | refine blk_drewN ?_ _ | refine blk_drew ?_ | refine blk_alloc ?_ _)); exact BK183.out)) Tryd.underlying23 rfl (by exact (show (Tryd.prog.info? 23).map (·.size) = some 26 by kernel_rfl)) ?_) | ((with_reducible refine gate_dst (N := 8) rfl ?_); refine wpList_load_mid rfl 23 (.tmp 7) rfl gb184 0 rfl [.int .i8 a1_0, .int .i8 a1_1, .int .i8 a1_2, .int .i8 a1_3, .int .i8 a1_4, .int .i8 a1_5, .int .i8 a1_6, .int .i8 a1_7, .int .i8 a1_8, .int .i8 a1_9, .int .i8 a1_10, .int .i8 a1_11, .int .i8 a1_12, .int .i8 a1_13, .int .i8 a1_14, .int .i8 a1_15, .int .i8 a1_16, .int .i8 a1_17, .int .i8 a1_18, .int .i8 a1_19, .int .i8 a1_20, .int .i8 a1_21, .int .i8 a1_22, .int .i8 a1_23, .int .i8 a1_24, .int .i8 a1_25] _ (range_partx_ [] [.int .i8 a1_0, .int .i8 a1_1, .int .i8 a1_2, .int .i8 a1_3, .int .i8 a1_4, .int .i8 a1_5, .int .i8 a1_6, .int .i8 a1_7, .int .i8 a1_8, .int .i8 a1_9, .int .i8 a1_10, .int .i8 a1_11, .int .i8 a1_12, .int .i8 a1_13, .int .i8 a1_14, .int .i8 a1_15, .int .i8 a1_16, .int .i8 a1_17, .int .i8 a1_18, .int .i8 a1_19, .int .i8 a1_20, .int .i8 a1_21, .int .i8 a1_22, .int .i8 a1_23, .int .i8 a1_24, .int .i8 a1_25] [.int .i8 a1_26, .int .i8 a1_27, .slice A1_28 l1_28.length c1_28] 0 rfl (by (with_reducible repeat (first | refine blk_drewN ?_ _ | refine blk_drew ?_ | refine blk_alloc ?_ _)); exact BK184.out)) Tryd.underlying23 rfl (by exact (show (Tryd.prog.info? 23).map (·.size) = some 26 by kernel_rfl)) ?_) | ((with_reducible refine gate_callee (f := 71) rfl ?_); refine goesL_ (some 9) rfl rfl Tryd.func71 (by kernel_rfl) rfl #[.agg #[.int .i8 a0_0, .int .i8 a0_1, .int .i8 a0_2, .int .i8 a0_3, .int .i8 a0_4, .int .i8 a0_5, .int .i8 a0_6, .int .i8 a0_7, .int .i8 a0_8, .int .i8 a0_9, .int .i8 a0_10, .int .i8 a0_11, .int .i8 a0_12, .int .i8 a0_13, .int .i8 a0_14, .int .i8 a0_15, .int .i8 a0_16, .int .i8 a0_17, .int .i8 a0_18, .int .i8 a0_19, .int .i8 a0_20, .int .i8 a0_21, .int .i8 a0_22, .int .i8 a0_23, .int .i8 a0_24, .int .i8 a0_25], .agg #[.int .i8 a1_0, .int .i8 a1_1, .int .i8 a1_2, .int .i8 a1_3, .int .i8 a1_4, .int .i8 a1_5, .int .i8 a1_6, .int .i8 a1_7, .int .i8 a1_8, .int .i8 a1_9, .int .i8 a1_10, .int .i8 a1_11, .int .i8 a1_12, .int .i8 a1_13, .int .i8 a1_14, .int .i8 a1_15, .int .i8 a1_16, .int .i8 a1_17, .int .i8 a1_18, .int .i8 a1_19, .int .i8 a1_20, .int .i8 a1_21, .int .i8 a1_22, .int .i8 a1_23, .int .i8 a1_24, .int .i8 a1_25]] rfl (by (try simp only [List.map_toArray, List.map_cons, List.map_nil]); first | done | rfl | (simp only [List.length_drop, List.length_take]; rfl)) ?_; (with_reducible refine (laws_eqInt8A26.calls k a0_0 a0_1 a0_2 a0_3 a0_4 a0_5 a0_6 a0_7 a0_8 a0_9 a0_10 a0_11 a0_12 a0_13 a0_14 a0_15 a0_16 a0_17 a0_18 a0_19 a0_20 a0_21 a0_22 a0_23 a0_24 a0_25 a1_0 a1_1 a1_2 a1_3 a1_4 a1_5 a1_6 a1_7 a1_8 a1_9 a1_10 a1_11 a1_12 a1_13 a1_14 a1_15 a1_16 a1_17 a1_18 a1_19 a1_20 a1_21 a1_22 a1_23 a1_24 a1_25 true _ A3.out).mono ?_); rintro e w25 ⟨rfl, hb⟩; refine ⟨_, rfl, ?_⟩; have n0_ := Aside0.mk (blk_below (g := gb183) (o := .cells #[.int .i8 a0_0, .int .i8 a0_1, .int .i8 a0_2, .int .i8 a0_3, .int .i8 a0_4, .int .i8 a0_5, .int .i8 a0_6, .int .i8 a0_7, .int .i8 a0_8, .int .i8 a0_9, .int .i8 a0_10, .int .i8 a0_11, .int .i8 a0_12, .int .i8 a0_13, .int .i8 a0_14, .int .i8 a0_15, .int .i8 a0_16, .int .i8 a0_17, .int .i8 a0_18, .int .i8 a0_19, .int .i8 a0_20, .int .i8 a0_21, .int .i8 a0_22, .int .i8 a0_23, .int .i8 a0_24, .int .i8 a0_25, .int .i8 a0_26, .int .i8 a0_27, .slice A0_28 l0_28.length c0_28] 32 (0, 0)) (by (with_reducible repeat (first | refine blk_drewN ?_ _ | refine blk_drew ?_ | refine blk_alloc ?_ _)); exact BK183.out) hb); have n1_ := Aside0.mk (blk_below (g := gb184) (o := .cells #[.int .i8 a1_0, .int .i8 a1_1, .int .i8 a1_2, .int .i8 a1_3, .int .i8 a1_4, .int .i8 a1_5, .int .i8 a1_6, .int .i8 a1_7, .int .i8 a1_8, .int .i8 a1_9, .int .i8 a1_10, .int .i8 a1_11, .int .i8 a1_12, .int .i8 a1_13, .int .i8 a1_14, .int .i8 a1_15, .int .i8 a1_16, .int .i8 a1_17, .int .i8 a1_18, .int .i8 a1_19, .int .i8 a1_20, .int .i8 a1_21, .int .i8 a1_22, .int .i8 a1_23, .int .i8 a1_24, .int .i8 a1_25, .int .i8 a1_26, .int .i8 a1_27, .slice A1_28 l1_28.length c1_28] 32 (0, 0)) (by (with_reducible repeat (first | refine blk_drewN ?_ _ | refine blk_drew ?_ | refine blk_alloc ?_ _)); exact BK184.out) hb); have n2_ := Aside0.mk (below_step (by repeat (first | (with_reducible first | exact HB.out | apply below_alloc | apply pw_below_drewN | apply below_drew1 | refine below_set ?_ GE183.out | refine below_set ?_ GE184.out) | exact HB.out)) hb); clear BK183; clear BK184; clear HB; have BK183 := n0_; have BK184 := n1_; have HB := n2_; clear n0_ n1_ n2_; (try clear hb); (try clear hb2); (try clear hk); (try clear hi); have hnb26 := NB183_184.out; have hnc26 := NB184_183.out; have hcz27_26 : w25.cell? ⟨gb183, 26, none⟩ = some (.int .i8 a0_26) := (blk_cell BK183.out 26).trans rfl; have hcz27_27 : w25.cell? ⟨gb183, 27, none⟩ = some (.int .i8 a0_27) := (blk_cell BK183.out 27).trans rfl; have hcz27_28 : w25.cell? ⟨gb183, 28, none⟩ = some (.slice A0_28 l0_28.length c0_28) := (blk_cell BK183.out 28).trans rfl; have hfz27_26 := blk_frozen BK183.out 26; have hfz27_27 := blk_frozen BK183.out 27; have hfz27_28 := blk_frozen BK183.out 28; have hcz28_26 : w25.cell? ⟨gb184, 26, none⟩ = some (.int .i8 a1_26) := (blk_cell BK184.out 26).trans rfl; have hcz28_27 : w25.cell? ⟨gb184, 27, none⟩ = some (.int .i8 a1_27) := (blk_cell BK184.out 27).trans rfl; have hcz28_28 : w25.cell? ⟨gb184, 28, none⟩ = some (.slice A1_28 l1_28.length c1_28) := (blk_cell BK184.out 28).trans rfl; have hfz28_26 := blk_frozen BK184.out 26; have hfz28_27 := blk_frozen BK184.out 27; have hfz28_28 := blk_frozen BK184.out 28))
        go_ret
        exact ⟨by first | rfl | (simp [errW_none, errW_some] <;> rfl) | (simp [*, errW_none, errW_some] <;> rfl), by repeat (first | (with_reducible first | exact HB.out | apply below_alloc | apply pw_below_drewN | apply below_drew1 | refine below_set ?_ GE183.out | refine below_set ?_ GE184.out) | exact HB.out)⟩
    · rw [if_neg c5] at H
      have c5b0 : (a0_26 == a1_26) = false := beq_eq_false_iff_ne.mpr c5
      have c5b1 : (a0_26 != a1_26) = true := bne_iff_ne.mpr c5
      obtain rfl := Option.some.inj H
      go_enter Tryd.func22, Tryd.ntmps22
      go_wp2_with (first | ((with_reducible refine gate_dst (N := 2) rfl ?_); refine box_event ?hg (N := 2) ?hd (cs := #[.int .i8 a0_0, .int .i8 a0_1, .int .i8 a0_2, .int .i8 a0_3, .int .i8 a0_4, .int .i8 a0_5, .int .i8 a0_6, .int .i8 a0_7, .int .i8 a0_8, .int .i8 a0_9, .int .i8 a0_10, .int .i8 a0_11, .int .i8 a0_12, .int .i8 a0_13, .int .i8 a0_14, .int .i8 a0_15, .int .i8 a0_16, .int .i8 a0_17, .int .i8 a0_18, .int .i8 a0_19, .int .i8 a0_20, .int .i8 a0_21, .int .i8 a0_22, .int .i8 a0_23, .int .i8 a0_24, .int .i8 a0_25, .int .i8 a0_26, .int .i8 a0_27, .slice A0_28 l0_28.length c0_28]) (t := 32) ?hr ?_; (case hd => rfl); (case hg => rfl); (case hr => first | (go_simp; done) | (go_simp; rfl)); intro gb183 hg w29 hbox hb; have n0_ := Aside0.mk (below_step (by repeat (first | (with_reducible first | exact HB.out | apply below_alloc | apply pw_below_drewN | apply below_drew1) | exact HB.out)) hb); have n1_ := Aside0.mk (hbox); have n2_ := Aside0.mk ((by rw [hg]; exact (below_size (by repeat (first | (with_reducible first | exact HB.out | apply below_alloc | apply pw_below_drewN | apply below_drew1) | exact HB.out))) : w.heap.size ≤ gb183)); have n3_ := Aside0.mk ((by rw [hg]; exact (below_size (by repeat (first | (with_reducible first | exact HB.out | apply below_alloc | apply pw_below_drewN | apply below_drew1) | exact HB.out))) : w.heap.size ≤ gb183)); clear HB; have HB := n0_; have BK183 := n1_; have GW183 := n2_; have GE183 := n3_; clear n0_ n1_ n2_ n3_; clear hb hbox hg) | ((with_reducible refine gate_dst (N := 3) rfl ?_); refine box_event ?hg (N := 3) ?hd (cs := #[.int .i8 a1_0, .int .i8 a1_1, .int .i8 a1_2, .int .i8 a1_3, .int .i8 a1_4, .int .i8 a1_5, .int .i8 a1_6, .int .i8 a1_7, .int .i8 a1_8, .int .i8 a1_9, .int .i8 a1_10, .int .i8 a1_11, .int .i8 a1_12, .int .i8 a1_13, .int .i8 a1_14, .int .i8 a1_15, .int .i8 a1_16, .int .i8 a1_17, .int .i8 a1_18, .int .i8 a1_19, .int .i8 a1_20, .int .i8 a1_21, .int .i8 a1_22, .int .i8 a1_23, .int .i8 a1_24, .int .i8 a1_25, .int .i8 a1_26, .int .i8 a1_27, .slice A1_28 l1_28.length c1_28]) (t := 32) ?hr ?_; (case hd => rfl); (case hg => rfl); (case hr => first | (go_simp; done) | (go_simp; rfl)); intro gb184 hg w30 hbox hb; have n0_ := Aside0.mk (blk_below (g := gb183) (o := .cells #[.int .i8 a0_0, .int .i8 a0_1, .int .i8 a0_2, .int .i8 a0_3, .int .i8 a0_4, .int .i8 a0_5, .int .i8 a0_6, .int .i8 a0_7, .int .i8 a0_8, .int .i8 a0_9, .int .i8 a0_10, .int .i8 a0_11, .int .i8 a0_12, .int .i8 a0_13, .int .i8 a0_14, .int .i8 a0_15, .int .i8 a0_16, .int .i8 a0_17, .int .i8 a0_18, .int .i8 a0_19, .int .i8 a0_20, .int .i8 a0_21, .int .i8 a0_22, .int .i8 a0_23, .int .i8 a0_24, .int .i8 a0_25, .int .i8 a0_26, .int .i8 a0_27, .slice A0_28 l0_28.length c0_28] 32 (0, 0)) (by (with_reducible repeat (first | refine blk_drewN ?_ _ | refine blk_drew ?_ | refine blk_alloc ?_ _)); exact BK183.out) hb); have n1_ := Aside0.mk (below_step (by repeat (first | (with_reducible first | exact HB.out | apply below_alloc | apply pw_below_drewN | apply below_drew1 | refine below_set ?_ GE183.out) | exact HB.out)) hb); have n2_ := Aside0.mk (hbox); have n3_ := Aside0.mk ((by rw [hg]; exact (below_size (by repeat (first | (with_reducible first | exact HB.out | apply below_alloc | apply pw_below_drewN | apply below_drew1 | refine below_set ?_ GE183.out) | exact HB.out))) : w.heap.size ≤ gb184)); have n4_ := Aside0.mk ((by rw [hg]; exact (below_size (by repeat (first | (with_reducible first | exact HB.out | apply below_alloc | apply pw_below_drewN | apply below_drew1 | refine below_set ?_ GE183.out) | exact HB.out))) : w.heap.size ≤ gb184)); have n5_ := Aside0.mk ((by rw [hg]; exact Nat.ne_of_lt (blk_lt (g := gb183) (o := .cells #[.int .i8 a0_0, .int .i8 a0_1, .int .i8 a0_2, .int .i8 a0_3, .int .i8 a0_4, .int .i8 a0_5, .int .i8 a0_6, .int .i8 a0_7, .int .i8 a0_8, .int .i8 a0_9, .int .i8 a0_10, .int .i8 a0_11, .int .i8 a0_12, .int .i8 a0_13, .int .i8 a0_14, .int .i8 a0_15, .int .i8 a0_16, .int .i8 a0_17, .int .i8 a0_18, .int .i8 a0_19, .int .i8 a0_20, .int .i8 a0_21, .int .i8 a0_22, .int .i8 a0_23, .int .i8 a0_24, .int .i8 a0_25, .int .i8 a0_26, .int .i8 a0_27, .slice A0_28 l0_28.length c0_28] 32 (0, 0)) (by (with_reducible repeat (first | refine blk_drewN ?_ _ | refine blk_drew ?_ | refine blk_alloc ?_ _)); exact BK183.out)) : gb183 ≠ gb184)); have n6_ := Aside0.mk ((by rw [hg]; exact Nat.ne_of_gt (blk_lt (g := gb183) (o := .cells #[.int .i8 a0_0, .int .i8 a0_1, .int .i8 a0_2, .int .i8 a0_3, .int .i8 a0_4, .int .i8 a0_5, .int .i8 a0_6, .int .i8 a0_7, .int .i8 a0_8, .int .i8 a0_9, .int .i8 a0_10, .int .i8 a0_11, .int .i8 a0_12, .int .i8 a0_13, .int .i8 a0_14, .int .i8 a0_15, .int .i8 a0_16, .int .i8 a0_17, .int .i8 a0_18, .int .i8 a0_19, .int .i8 a0_20, .int .i8 a0_21, .int .i8 a0_22, .int .i8 a0_23, .int .i8 a0_24, .int .i8 a0_25, .int .i8 a0_26, .int .i8 a0_27, .slice A0_28 l0_28.length c0_28] 32 (0, 0)) (by (with_reducible repeat (first | refine blk_drewN ?_ _ | refine blk_drew ?_ | refine blk_alloc ?_ _)); exact BK183.out)) : gb184 ≠ gb183)); clear BK183; clear HB; have BK183 := n0_; have HB := n1_; have BK184 := n2_; have GW184 := n3_; have GE184 := n4_; have NB183_184 := n5_; have NB184_183 := n6_; clear n0_ n1_ n2_ n3_ n4_ n5_ n6_; clear hb hbox hg) | ((with_reducible refine gate_dst (N := 6) rfl ?_); refine wpList_load_mid rfl 23 (.tmp 5) rfl gb183 0 rfl [.int .i8 a0_0, .int .i8 a0_1, .int .i8 a0_2, .int .i8 a0_3, .int .i8 a0_4, .int .i8 a0_5, .int .i8 a0_6, .int .i8 a0_7, .int .i8 a0_8, .int .i8 a0_9, .int .i8 a0_10, .int .i8 a0_11, .int .i8 a0_12, .int .i8 a0_13, .int .i8 a0_14, .int .i8 a0_15, .int .i8 a0_16, .int .i8 a0_17, .int .i8 a0_18, .int .i8 a0_19, .int .i8 a0_20, .int .i8 a0_21, .int .i8 a0_22, .int .i8 a0_23, .int .i8 a0_24, .int .i8 a0_25] _ (range_partx_ [] [.int .i8 a0_0, .int .i8 a0_1, .int .i8 a0_2, .int .i8 a0_3, .int .i8 a0_4, .int .i8 a0_5, .int .i8 a0_6, .int .i8 a0_7, .int .i8 a0_8, .int .i8 a0_9, .int .i8 a0_10, .int .i8 a0_11, .int .i8 a0_12, .int .i8 a0_13, .int .i8 a0_14, .int .i8 a0_15, .int .i8 a0_16, .int .i8 a0_17, .int .i8 a0_18, .int .i8 a0_19, .int .i8 a0_20, .int .i8 a0_21, .int .i8 a0_22, .int .i8 a0_23, .int .i8 a0_24, .int .i8 a0_25] [.int .i8 a0_26, .int .i8 a0_27, .slice A0_28 l0_28.length c0_28] 0 rfl (by (with_reducible repeat (first | refine blk_drewN ?_ _ | refine blk_drew ?_ | refine blk_alloc ?_ _)); exact BK183.out)) Tryd.underlying23 rfl (by exact (show (Tryd.prog.info? 23).map (·.size) = some 26 by kernel_rfl)) ?_) | ((with_reducible refine gate_dst (N := 8) rfl ?_); refine wpList_load_mid rfl 23 (.tmp 7) rfl gb184 0 rfl [.int .i8 a1_0, .int .i8 a1_1, .int .i8 a1_2, .int .i8 a1_3, .int .i8 a1_4, .int .i8 a1_5, .int .i8 a1_6, .int .i8 a1_7, .int .i8 a1_8, .int .i8 a1_9, .int .i8 a1_10, .int .i8 a1_11, .int .i8 a1_12, .int .i8 a1_13, .int .i8 a1_14, .int .i8 a1_15, .int .i8 a1_16, .int .i8 a1_17, .int .i8 a1_18, .int .i8 a1_19, .int .i8 a1_20, .int .i8 a1_21, .int .i8 a1_22, .int .i8 a1_23, .int .i8 a1_24, .int .i8 a1_25] _ (range_partx_ [] [.int .i8 a1_0, .int .i8 a1_1, .int .i8 a1_2, .int .i8 a1_3, .int .i8 a1_4, .int .i8 a1_5, .int .i8 a1_6, .int .i8 a1_7, .int .i8 a1_8, .int .i8 a1_9, .int .i8 a1_10, .int .i8 a1_11, .int .i8 a1_12, .int .i8 a1_13, .int .i8 a1_14, .int .i8 a1_15, .int .i8 a1_16, .int .i8 a1_17, .int .i8 a1_18, .int .i8 a1_19, .int .i8 a1_20, .int .i8 a1_21, .int .i8 a1_22, .int .i8 a1_23, .int .i8 a1_24, .int .i8 a1_25] [.int .i8 a1_26, .int .i8 a1_27, .slice A1_28 l1_28.length c1_28] 0 rfl (by (with_reducible repeat (first | refine blk_drewN ?_ _ | refine blk_drew ?_ | refine blk_alloc ?_ _)); exact BK184.out)) Tryd.underlying23 rfl (by exact (show (Tryd.prog.info? 23).map (·.size) = some 26 by kernel_rfl)) ?_) | ((with_reducible refine gate_callee (f := 71) rfl ?_); refine goesL_ (some 9) rfl rfl Tryd.func71 (by kernel_rfl) rfl #[.agg #[.int .i8 a0_0, .int .i8 a0_1, .int .i8 a0_2, .int .i8 a0_3, .int .i8 a0_4, .int .i8 a0_5, .int .i8 a0_6, .int .i8 a0_7, .int .i8 a0_8, .int .i8 a0_9, .int .i8 a0_10, .int .i8 a0_11, .int .i8 a0_12, .int .i8 a0_13, .int .i8 a0_14, .int .i8 a0_15, .int .i8 a0_16, .int .i8 a0_17, .int .i8 a0_18, .int .i8 a0_19, .int .i8 a0_20, .int .i8 a0_21, .int .i8 a0_22, .int .i8 a0_23, .int .i8 a0_24, .int .i8 a0_25], .agg #[.int .i8 a1_0, .int .i8 a1_1, .int .i8 a1_2, .int .i8 a1_3, .int .i8 a1_4, .int .i8 a1_5, .int .i8 a1_6, .int .i8 a1_7, .int .i8 a1_8, .int .i8 a1_9, .int .i8 a1_10, .int .i8 a1_11, .int .i8 a1_12, .int .i8 a1_13, .int .i8 a1_14, .int .i8 a1_15, .int .i8 a1_16, .int .i8 a1_17, .int .i8 a1_18, .int .i8 a1_19, .int .i8 a1_20, .int .i8 a1_21, .int .i8 a1_22, .int .i8 a1_23, .int .i8 a1_24, .int .i8 a1_25]] rfl (by (try simp only [List.map_toArray, List.map_cons, List.map_nil]); first | done | rfl | (simp only [List.length_drop, List.length_take]; rfl)) ?_; (with_reducible refine (laws_eqInt8A26.calls k a0_0 a0_1 a0_2 a0_3 a0_4 a0_5 a0_6 a0_7 a0_8 a0_9 a0_10 a0_11 a0_12 a0_13 a0_14 a0_15 a0_16 a0_17 a0_18 a0_19 a0_20 a0_21 a0_22 a0_23 a0_24 a0_25 a1_0 a1_1 a1_2 a1_3 a1_4 a1_5 a1_6 a1_7 a1_8 a1_9 a1_10 a1_11 a1_12 a1_13 a1_14 a1_15 a1_16 a1_17 a1_18 a1_19 a1_20 a1_21 a1_22 a1_23 a1_24 a1_25 true _ A3.out).mono ?_); rintro e w31 ⟨rfl, hb⟩; refine ⟨_, rfl, ?_⟩; have n0_ := Aside0.mk (blk_below (g := gb183) (o := .cells #[.int .i8 a0_0, .int .i8 a0_1, .int .i8 a0_2, .int .i8 a0_3, .int .i8 a0_4, .int .i8 a0_5, .int .i8 a0_6, .int .i8 a0_7, .int .i8 a0_8, .int .i8 a0_9, .int .i8 a0_10, .int .i8 a0_11, .int .i8 a0_12, .int .i8 a0_13, .int .i8 a0_14, .int .i8 a0_15, .int .i8 a0_16, .int .i8 a0_17, .int .i8 a0_18, .int .i8 a0_19, .int .i8 a0_20, .int .i8 a0_21, .int .i8 a0_22, .int .i8 a0_23, .int .i8 a0_24, .int .i8 a0_25, .int .i8 a0_26, .int .i8 a0_27, .slice A0_28 l0_28.length c0_28] 32 (0, 0)) (by (with_reducible repeat (first | refine blk_drewN ?_ _ | refine blk_drew ?_ | refine blk_alloc ?_ _)); exact BK183.out) hb); have n1_ := Aside0.mk (blk_below (g := gb184) (o := .cells #[.int .i8 a1_0, .int .i8 a1_1, .int .i8 a1_2, .int .i8 a1_3, .int .i8 a1_4, .int .i8 a1_5, .int .i8 a1_6, .int .i8 a1_7, .int .i8 a1_8, .int .i8 a1_9, .int .i8 a1_10, .int .i8 a1_11, .int .i8 a1_12, .int .i8 a1_13, .int .i8 a1_14, .int .i8 a1_15, .int .i8 a1_16, .int .i8 a1_17, .int .i8 a1_18, .int .i8 a1_19, .int .i8 a1_20, .int .i8 a1_21, .int .i8 a1_22, .int .i8 a1_23, .int .i8 a1_24, .int .i8 a1_25, .int .i8 a1_26, .int .i8 a1_27, .slice A1_28 l1_28.length c1_28] 32 (0, 0)) (by (with_reducible repeat (first | refine blk_drewN ?_ _ | refine blk_drew ?_ | refine blk_alloc ?_ _)); exact BK184.out) hb); have n2_ := Aside0.mk (below_step (by repeat (first | (with_reducible first | exact HB.out | apply below_alloc | apply pw_below_drewN | apply below_drew1 | refine below_set ?_ GE183.out | refine below_set ?_ GE184.out) | exact HB.out)) hb); clear BK183; clear BK184; clear HB; have BK183 := n0_; have BK184 := n1_; have HB := n2_; clear n0_ n1_ n2_; (try clear hb); (try clear hb2); (try clear hk); (try clear hi); have hnb32 := NB183_184.out; have hnc32 := NB184_183.out; have hcz33_26 : w31.cell? ⟨gb183, 26, none⟩ = some (.int .i8 a0_26) := (blk_cell BK183.out 26).trans rfl; have hcz33_27 : w31.cell? ⟨gb183, 27, none⟩ = some (.int .i8 a0_27) := (blk_cell BK183.out 27).trans rfl; have hcz33_28 : w31.cell? ⟨gb183, 28, none⟩ = some (.slice A0_28 l0_28.length c0_28) := (blk_cell BK183.out 28).trans rfl; have hfz33_26 := blk_frozen BK183.out 26; have hfz33_27 := blk_frozen BK183.out 27; have hfz33_28 := blk_frozen BK183.out 28; have hcz34_26 : w31.cell? ⟨gb184, 26, none⟩ = some (.int .i8 a1_26) := (blk_cell BK184.out 26).trans rfl; have hcz34_27 : w31.cell? ⟨gb184, 27, none⟩ = some (.int .i8 a1_27) := (blk_cell BK184.out 27).trans rfl; have hcz34_28 : w31.cell? ⟨gb184, 28, none⟩ = some (.slice A1_28 l1_28.length c1_28) := (blk_cell BK184.out 28).trans rfl; have hfz34_26 := blk_frozen BK184.out 26; have hfz34_27 := blk_frozen BK184.out 27; have hfz34_28 := blk_frozen BK184.out 28))
      go_ret
      exact ⟨by first | rfl | (simp [errW_none, errW_some] <;> rfl) | (simp [*, errW_none, errW_some] <;> rfl), by repeat (first | (with_reducible first | exact HB.out | apply below_alloc | apply pw_below_drewN | apply below_drew1 | refine below_set ?_ GE183.out | refine below_set ?_ GE184.out) | exact HB.out)⟩
  · replace c4 := Bool.eq_false_iff.mpr c4
    subst c4
    have H1 : (some false) = some r := by rw [if_neg (show ¬ (false = true) by decide)] at H; exact H
    clear H
    have H := H1
    clear H1
    obtain rfl := Option.some.inj H
    go_enter Tryd.func22, Tryd.ntmps22
    go_wp2_with (first | ((with_reducible refine gate_dst (N := 2) rfl ?_); refine box_event ?hg (N := 2) ?hd (cs := #[.int .i8 a0_0, .int .i8 a0_1, .int .i8 a0_2, .int .i8 a0_3, .int .i8 a0_4, .int .i8 a0_5, .int .i8 a0_6, .int .i8 a0_7, .int .i8 a0_8, .int .i8 a0_9, .int .i8 a0_10, .int .i8 a0_11, .int .i8 a0_12, .int .i8 a0_13, .int .i8 a0_14, .int .i8 a0_15, .int .i8 a0_16, .int .i8 a0_17, .int .i8 a0_18, .int .i8 a0_19, .int .i8 a0_20, .int .i8 a0_21, .int .i8 a0_22, .int .i8 a0_23, .int .i8 a0_24, .int .i8 a0_25, .int .i8 a0_26, .int .i8 a0_27, .slice A0_28 l0_28.length c0_28]) (t := 32) ?hr ?_; (case hd => rfl); (case hg => rfl); (case hr => first | (go_simp; done) | (go_simp; rfl)); intro gb183 hg w35 hbox hb; have n0_ := Aside0.mk (below_step (by repeat (first | (with_reducible first | exact HB.out | apply below_alloc | apply pw_below_drewN | apply below_drew1) | exact HB.out)) hb); have n1_ := Aside0.mk (hbox); have n2_ := Aside0.mk ((by rw [hg]; exact (below_size (by repeat (first | (with_reducible first | exact HB.out | apply below_alloc | apply pw_below_drewN | apply below_drew1) | exact HB.out))) : w.heap.size ≤ gb183)); have n3_ := Aside0.mk ((by rw [hg]; exact (below_size (by repeat (first | (with_reducible first | exact HB.out | apply below_alloc | apply pw_below_drewN | apply below_drew1) | exact HB.out))) : w.heap.size ≤ gb183)); clear HB; have HB := n0_; have BK183 := n1_; have GW183 := n2_; have GE183 := n3_; clear n0_ n1_ n2_ n3_; clear hb hbox hg) | ((with_reducible refine gate_dst (N := 3) rfl ?_); refine box_event ?hg (N := 3) ?hd (cs := #[.int .i8 a1_0, .int .i8 a1_1, .int .i8 a1_2, .int .i8 a1_3, .int .i8 a1_4, .int .i8 a1_5, .int .i8 a1_6, .int .i8 a1_7, .int .i8 a1_8, .int .i8 a1_9, .int .i8 a1_10, .int .i8 a1_11, .int .i8 a1_12, .int .i8 a1_13, .int .i8 a1_14, .int .i8 a1_15, .int .i8 a1_16, .int .i8 a1_17, .int .i8 a1_18, .int .i8 a1_19, .int .i8 a1_20, .int .i8 a1_21, .int .i8 a1_22, .int .i8 a1_23, .int .i8 a1_24, .int .i8 a1_25, .int .i8 a1_26, .int .i8 a1_27, .slice A1_28 l1_28.length c1_28]) (t := 32) ?hr ?_; (case hd => rfl); (case hg => rfl); (case hr => first | (go_simp; done) | (go_simp; rfl)); intro gb184 hg w36 hbox hb; have n0_ := Aside0.mk (blk_below (g := gb183) (o := .cells #[.int .i8 a0_0, .int .i8 a0_1, .int .i8 a0_2, .int .i8 a0_3, .int .i8 a0_4, .int .i8 a0_5, .int .i8 a0_6, .int .i8 a0_7, .int .i8 a0_8, .int .i8 a0_9, .int .i8 a0_10, .int .i8 a0_11, .int .i8 a0_12, .int .i8 a0_13, .int .i8 a0_14, .int .i8 a0_15, .int .i8 a0_16, .int .i8 a0_17, .int .i8 a0_18, .int .i8 a0_19, .int .i8 a0_20, .int .i8 a0_21, .int .i8 a0_22, .int .i8 a0_23, .int .i8 a0_24, .int .i8 a0_25, .int .i8 a0_26, .int .i8 a0_27, .slice A0_28 l0_28.length c0_28] 32 (0, 0)) (by (with_reducible repeat (first | refine blk_drewN ?_ _ | refine blk_drew ?_ | refine blk_alloc ?_ _)); exact BK183.out) hb); have n1_ := Aside0.mk (below_step (by repeat (first | (with_reducible first | exact HB.out | apply below_alloc | apply pw_below_drewN | apply below_drew1 | refine below_set ?_ GE183.out) | exact HB.out)) hb); have n2_ := Aside0.mk (hbox); have n3_ := Aside0.mk ((by rw [hg]; exact (below_size (by repeat (first | (with_reducible first | exact HB.out | apply below_alloc | apply pw_below_drewN | apply below_drew1 | refine below_set ?_ GE183.out) | exact HB.out))) : w.heap.size ≤ gb184)); have n4_ := Aside0.mk ((by rw [hg]; exact (below_size (by repeat (first | (with_reducible first | exact HB.out | apply below_alloc | apply pw_below_drewN | apply below_drew1 | refine below_set ?_ GE183.out) | exact HB.out))) : w.heap.size ≤ gb184)); have n5_ := Aside0.mk ((by rw [hg]; exact Nat.ne_of_lt (blk_lt (g := gb183) (o := .cells #[.int .i8 a0_0, .int .i8 a0_1, .int .i8 a0_2, .int .i8 a0_3, .int .i8 a0_4, .int .i8 a0_5, .int .i8 a0_6, .int .i8 a0_7, .int .i8 a0_8, .int .i8 a0_9, .int .i8 a0_10, .int .i8 a0_11, .int .i8 a0_12, .int .i8 a0_13, .int .i8 a0_14, .int .i8 a0_15, .int .i8 a0_16, .int .i8 a0_17, .int .i8 a0_18, .int .i8 a0_19, .int .i8 a0_20, .int .i8 a0_21, .int .i8 a0_22, .int .i8 a0_23, .int .i8 a0_24, .int .i8 a0_25, .int .i8 a0_26, .int .i8 a0_27, .slice A0_28 l0_28.length c0_28] 32 (0, 0)) (by (with_reducible repeat (first | refine blk_drewN ?_ _ | refine blk_drew ?_ | refine blk_alloc ?_ _)); exact BK183.out)) : gb183 ≠ gb184)); have n6_ := Aside0.mk ((by rw [hg]; exact Nat.ne_of_gt (blk_lt (g := gb183) (o := .cells #[.int .i8 a0_0, .int .i8 a0_1, .int .i8 a0_2, .int .i8 a0_3, .int .i8 a0_4, .int .i8 a0_5, .int .i8 a0_6, .int .i8 a0_7, .int .i8 a0_8, .int .i8 a0_9, .int .i8 a0_10, .int .i8 a0_11, .int .i8 a0_12, .int .i8 a0_13, .int .i8 a0_14, .int .i8 a0_15, .int .i8 a0_16, .int .i8 a0_17, .int .i8 a0_18, .int .i8 a0_19, .int .i8 a0_20, .int .i8 a0_21, .int .i8 a0_22, .int .i8 a0_23, .int .i8 a0_24, .int .i8 a0_25, .int .i8 a0_26, .int .i8 a0_27, .slice A0_28 l0_28.length c0_28] 32 (0, 0)) (by (with_reducible repeat (first | refine blk_drewN ?_ _ | refine blk_drew ?_ | refine blk_alloc ?_ _)); exact BK183.out)) : gb184 ≠ gb183)); clear BK183; clear HB; have BK183 := n0_; have HB := n1_; have BK184 := n2_; have GW184 := n3_; have GE184 := n4_; have NB183_184 := n5_; have NB184_183 := n6_; clear n0_ n1_ n2_ n3_ n4_ n5_ n6_; clear hb hbox hg) | ((with_reducible refine gate_dst (N := 6) rfl ?_); refine wpList_load_mid rfl 23 (.tmp 5) rfl gb183 0 rfl [.int .i8 a0_0, .int .i8 a0_1, .int .i8 a0_2, .int .i8 a0_3, .int .i8 a0_4, .int .i8 a0_5, .int .i8 a0_6, .int .i8 a0_7, .int .i8 a0_8, .int .i8 a0_9, .int .i8 a0_10, .int .i8 a0_11, .int .i8 a0_12, .int .i8 a0_13, .int .i8 a0_14, .int .i8 a0_15, .int .i8 a0_16, .int .i8 a0_17, .int .i8 a0_18, .int .i8 a0_19, .int .i8 a0_20, .int .i8 a0_21, .int .i8 a0_22, .int .i8 a0_23, .int .i8 a0_24, .int .i8 a0_25] _ (range_partx_ [] [.int .i8 a0_0, .int .i8 a0_1, .int .i8 a0_2, .int .i8 a0_3, .int .i8 a0_4, .int .i8 a0_5, .int .i8 a0_6, .int .i8 a0_7, .int .i8 a0_8, .int .i8 a0_9, .int .i8 a0_10, .int .i8 a0_11, .int .i8 a0_12, .int .i8 a0_13, .int .i8 a0_14, .int .i8 a0_15, .int .i8 a0_16, .int .i8 a0_17, .int .i8 a0_18, .int .i8 a0_19, .int .i8 a0_20, .int .i8 a0_21, .int .i8 a0_22, .int .i8 a0_23, .int .i8 a0_24, .int .i8 a0_25] [.int .i8 a0_26, .int .i8 a0_27, .slice A0_28 l0_28.length c0_28] 0 rfl (by (with_reducible repeat (first | refine blk_drewN ?_ _ | refine blk_drew ?_ | refine blk_alloc ?_ _)); exact BK183.out)) Tryd.underlying23 rfl (by exact (show (Tryd.prog.info? 23).map (·.size) = some 26 by kernel_rfl)) ?_) | ((with_reducible refine gate_dst (N := 8) rfl ?_); refine wpList_load_mid rfl 23 (.tmp 7) rfl gb184 0 rfl [.int .i8 a1_0, .int .i8 a1_1, .int .i8 a1_2, .int .i8 a1_3, .int .i8 a1_4, .int .i8 a1_5, .int .i8 a1_6, .int .i8 a1_7, .int .i8 a1_8, .int .i8 a1_9, .int .i8 a1_10, .int .i8 a1_11, .int .i8 a1_12, .int .i8 a1_13, .int .i8 a1_14, .int .i8 a1_15, .int .i8 a1_16, .int .i8 a1_17, .int .i8 a1_18, .int .i8 a1_19, .int .i8 a1_20, .int .i8 a1_21, .int .i8 a1_22, .int .i8 a1_23, .int .i8 a1_24, .int .i8 a1_25] _ (range_partx_ [] [.int .i8 a1_0, .int .i8 a1_1, .int .i8 a1_2, .int .i8 a1_3, .int .i8 a1_4, .int .i8 a1_5, .int .i8 a1_6, .int .i8 a1_7, .int .i8 a1_8, .int .i8 a1_9, .int .i8 a1_10, .int .i8 a1_11, .int .i8 a1_12, .int .i8 a1_13, .int .i8 a1_14, .int .i8 a1_15, .int .i8 a1_16, .int .i8 a1_17, .int .i8 a1_18, .int .i8 a1_19, .int .i8 a1_20, .int .i8 a1_21, .int .i8 a1_22, .int .i8 a1_23, .int .i8 a1_24, .int .i8 a1_25] [.int .i8 a1_26, .int .i8 a1_27, .slice A1_28 l1_28.length c1_28] 0 rfl (by (with_reducible repeat (first | refine blk_drewN ?_ _ | refine blk_drew ?_ | refine blk_alloc ?_ _)); exact BK184.out)) Tryd.underlying23 rfl (by exact (show (Tryd.prog.info? 23).map (·.size) = some 26 by kernel_rfl)) ?_) | ((with_reducible refine gate_callee (f := 71) rfl ?_); refine goesL_ (some 9) rfl rfl Tryd.func71 (by kernel_rfl) rfl #[.agg #[.int .i8 a0_0, .int .i8 a0_1, .int .i8 a0_2, .int .i8 a0_3, .int .i8 a0_4, .int .i8 a0_5, .int .i8 a0_6, .int .i8 a0_7, .int .i8 a0_8, .int .i8 a0_9, .int .i8 a0_10, .int .i8 a0_11, .int .i8 a0_12, .int .i8 a0_13, .int .i8 a0_14, .int .i8 a0_15, .int .i8 a0_16, .int .i8 a0_17, .int .i8 a0_18, .int .i8 a0_19, .int .i8 a0_20, .int .i8 a0_21, .int .i8 a0_22, .int .i8 a0_23, .int .i8 a0_24, .int .i8 a0_25], .agg #[.int .i8 a1_0, .int .i8 a1_1, .int .i8 a1_2, .int .i8 a1_3, .int .i8 a1_4, .int .i8 a1_5, .int .i8 a1_6, .int .i8 a1_7, .int .i8 a1_8, .int .i8 a1_9, .int .i8 a1_10, .int .i8 a1_11, .int .i8 a1_12, .int .i8 a1_13, .int .i8 a1_14, .int .i8 a1_15, .int .i8 a1_16, .int .i8 a1_17, .int .i8 a1_18, .int .i8 a1_19, .int .i8 a1_20, .int .i8 a1_21, .int .i8 a1_22, .int .i8 a1_23, .int .i8 a1_24, .int .i8 a1_25]] rfl (by (try simp only [List.map_toArray, List.map_cons, List.map_nil]); first | done | rfl | (simp only [List.length_drop, List.length_take]; rfl)) ?_; (with_reducible refine (laws_eqInt8A26.calls k a0_0 a0_1 a0_2 a0_3 a0_4 a0_5 a0_6 a0_7 a0_8 a0_9 a0_10 a0_11 a0_12 a0_13 a0_14 a0_15 a0_16 a0_17 a0_18 a0_19 a0_20 a0_21 a0_22 a0_23 a0_24 a0_25 a1_0 a1_1 a1_2 a1_3 a1_4 a1_5 a1_6 a1_7 a1_8 a1_9 a1_10 a1_11 a1_12 a1_13 a1_14 a1_15 a1_16 a1_17 a1_18 a1_19 a1_20 a1_21 a1_22 a1_23 a1_24 a1_25 false _ A3.out).mono ?_); rintro e w37 ⟨rfl, hb⟩; refine ⟨_, rfl, ?_⟩; have n0_ := Aside0.mk (blk_below (g := gb183) (o := .cells #[.int .i8 a0_0, .int .i8 a0_1, .int .i8 a0_2, .int .i8 a0_3, .int .i8 a0_4, .int .i8 a0_5, .int .i8 a0_6, .int .i8 a0_7, .int .i8 a0_8, .int .i8 a0_9, .int .i8 a0_10, .int .i8 a0_11, .int .i8 a0_12, .int .i8 a0_13, .int .i8 a0_14, .int .i8 a0_15, .int .i8 a0_16, .int .i8 a0_17, .int .i8 a0_18, .int .i8 a0_19, .int .i8 a0_20, .int .i8 a0_21, .int .i8 a0_22, .int .i8 a0_23, .int .i8 a0_24, .int .i8 a0_25, .int .i8 a0_26, .int .i8 a0_27, .slice A0_28 l0_28.length c0_28] 32 (0, 0)) (by (with_reducible repeat (first | refine blk_drewN ?_ _ | refine blk_drew ?_ | refine blk_alloc ?_ _)); exact BK183.out) hb); have n1_ := Aside0.mk (blk_below (g := gb184) (o := .cells #[.int .i8 a1_0, .int .i8 a1_1, .int .i8 a1_2, .int .i8 a1_3, .int .i8 a1_4, .int .i8 a1_5, .int .i8 a1_6, .int .i8 a1_7, .int .i8 a1_8, .int .i8 a1_9, .int .i8 a1_10, .int .i8 a1_11, .int .i8 a1_12, .int .i8 a1_13, .int .i8 a1_14, .int .i8 a1_15, .int .i8 a1_16, .int .i8 a1_17, .int .i8 a1_18, .int .i8 a1_19, .int .i8 a1_20, .int .i8 a1_21, .int .i8 a1_22, .int .i8 a1_23, .int .i8 a1_24, .int .i8 a1_25, .int .i8 a1_26, .int .i8 a1_27, .slice A1_28 l1_28.length c1_28] 32 (0, 0)) (by (with_reducible repeat (first | refine blk_drewN ?_ _ | refine blk_drew ?_ | refine blk_alloc ?_ _)); exact BK184.out) hb); have n2_ := Aside0.mk (below_step (by repeat (first | (with_reducible first | exact HB.out | apply below_alloc | apply pw_below_drewN | apply below_drew1 | refine below_set ?_ GE183.out | refine below_set ?_ GE184.out) | exact HB.out)) hb); clear BK183; clear BK184; clear HB; have BK183 := n0_; have BK184 := n1_; have HB := n2_; clear n0_ n1_ n2_; (try clear hb); (try clear hb2); (try clear hk); (try clear hi)))
    go_ret
    exact ⟨by first | rfl | (simp [errW_none, errW_some] <;> rfl) | (simp [*, errW_none, errW_some] <;> rfl), by repeat (first | (with_reducible first | exact HB.out | apply below_alloc | apply pw_below_drewN | apply below_drew1 | refine below_set ?_ GE183.out | refine below_set ?_ GE184.out) | exact HB.out)⟩

end Go.Proofs.YticjkfacdmmopaaDoor.Q


namespace Go.Proofs.YticjkfacdmmopaaDoor.Pure
open Go.RowKit Go.Proofs.YticjkfacdmmopaaDoor.Ext Go.Proofs.YticjkfacdmmopaaDoor.Q Go.Proofs.YticjkfacdmmopaaDoor.Txt Go.Proofs.YticjkfacdmmopaaDoor.Face Go.Proofs.YticjkfacdmmopaaDoorW.PrintWords Go.Proofs.YticjkfacdmmopaaDoorW.PrintLast Go.Proofs.YticjkfacdmmopaaDoorW.PrintMore
set_option linter.unusedVariables false
set_option linter.unusedSimpArgs false
set_option maxRecDepth 100000
theorem szFace_eq (L : List Int) (lp : List LP) (hp : lp.length ≤ 9223372036854775807) : laws_szFace.f (rd L 0) (rd L 1) (rd L 2) (rd L 3) (rd L 4) (rd L 5) (rd L 6) (rd L 7) (rd L 8) (rd L 9) (rd L 10) (rd L 11) (rd L 12) (rd L 13) (rd L 14) (rd L 15) (rd L 16) (rd L 17) (rd L 18) (rd L 19) (rd L 20) (rd L 21) (rd L 22) (rd L 23) (rd L 24) (rd L 25) (rd L 26) (rd L 27) lp 1048576 = some (if 1048576 < lp.length then -1 else 1048576 - (lp.length : Int)) := by
  unfold laws_szFace.f laws_szPairS.f
  rw [w64 (x := 1048576 - (lp.length : Int)) (by omega) (by omega)]
  by_cases h : 1048576 < lp.length
  · rw [if_pos (by omega), if_pos h, Option.bind_some, if_pos (by omega)]
  · rw [if_neg (by omega), if_neg h, Option.bind_some, if_neg (by omega)]
theorem toFace_eq (L : List Int) (lp : List LP) (hp : lp.length ≤ 1048576) : laws_toFace.f (rd L 0) (rd L 1) (rd L 2) (rd L 3) (rd L 4) (rd L 5) (rd L 6) (rd L 7) (rd L 8) (rd L 9) (rd L 10) (rd L 11) (rd L 12) (rd L 13) (rd L 14) (rd L 15) (rd L 16) (rd L 17) (rd L 18) (rd L 19) (rd L 20) (rd L 21) (rd L 22) (rd L 23) (rd L 24) (rd L 25) (rd L 26) (rd L 27) lp = some (rd L 0, rd L 1, rd L 2, rd L 3, rd L 4, rd L 5, rd L 6, rd L 7, rd L 8, rd L 9, rd L 10, rd L 11, rd L 12, rd L 13, rd L 14, rd L 15, rd L 16, rd L 17, rd L 18, rd L 19, rd L 20, rd L 21, rd L 22, rd L 23, rd L 24, rd L 25, rd L 26, rd L 27, lp.map toP) := by
  unfold laws_toFace.f
  rw [if_pos hp]
theorem eq26_l0 (L : List Int) : ∀ (d k n : Nat), n + d = 26 → d < k → laws_eqInt8A26.l0 k n (rd L 0) (rd L 1) (rd L 2) (rd L 3) (rd L 4) (rd L 5) (rd L 6) (rd L 7) (rd L 8) (rd L 9) (rd L 10) (rd L 11) (rd L 12) (rd L 13) (rd L 14) (rd L 15) (rd L 16) (rd L 17) (rd L 18) (rd L 19) (rd L 20) (rd L 21) (rd L 22) (rd L 23) (rd L 24) (rd L 25) (rd L 0) (rd L 1) (rd L 2) (rd L 3) (rd L 4) (rd L 5) (rd L 6) (rd L 7) (rd L 8) (rd L 9) (rd L 10) (rd L 11) (rd L 12) (rd L 13) (rd L 14) (rd L 15) (rd L 16) (rd L 17) (rd L 18) (rd L 19) (rd L 20) (rd L 21) (rd L 22) (rd L 23) (rd L 24) (rd L 25) = some true
  | 0, k, n, hd, hk => by
    obtain ⟨k, rfl⟩ := some_k hk
    rw [laws_eqInt8A26.l0, if_neg (by omega)]
  | d + 1, k, n, hd, hk => by
    obtain ⟨k, rfl⟩ := some_k hk
    rw [laws_eqInt8A26.l0, if_pos (by omega), if_pos (by omega), if_pos rfl, wrap_succ n (by omega)]
    exact eq26_l0 L d k (n + 1) (by omega) (by omega)
theorem eqPairS_l0 (P : List Pr) (hP : P.length ≤ 4611686018427387904) : ∀ (d k n : Nat), n + d = P.length → d < k → laws_eqPairS.l0 k P P n = some true
  | 0, k, n, hd, hk => by
    obtain ⟨k, rfl⟩ := some_k hk
    rw [laws_eqPairS.l0, if_neg (by omega)]
  | d + 1, k, n, hd, hk => by
    obtain ⟨k, rfl⟩ := some_k hk
    rw [laws_eqPairS.l0, if_pos (by omega), if_pos (by omega), if_pos (by omega), laws_eqPair.f, if_pos rfl, if_pos rfl, if_pos rfl, Option.bind_some, if_pos rfl, wrap_succ n (by omega)]
    exact eqPairS_l0 P hP d k (n + 1) (by omega) (by omega)
theorem eqFace_self (L : List Int) (P : List Pr) (hP : P.length ≤ 1048576) {k : Nat} (hk : 1048577 < k) : laws_eqFace.f k (rd L 0) (rd L 1) (rd L 2) (rd L 3) (rd L 4) (rd L 5) (rd L 6) (rd L 7) (rd L 8) (rd L 9) (rd L 10) (rd L 11) (rd L 12) (rd L 13) (rd L 14) (rd L 15) (rd L 16) (rd L 17) (rd L 18) (rd L 19) (rd L 20) (rd L 21) (rd L 22) (rd L 23) (rd L 24) (rd L 25) (rd L 26) (rd L 27) P (rd L 0) (rd L 1) (rd L 2) (rd L 3) (rd L 4) (rd L 5) (rd L 6) (rd L 7) (rd L 8) (rd L 9) (rd L 10) (rd L 11) (rd L 12) (rd L 13) (rd L 14) (rd L 15) (rd L 16) (rd L 17) (rd L 18) (rd L 19) (rd L 20) (rd L 21) (rd L 22) (rd L 23) (rd L 24) (rd L 25) (rd L 26) (rd L 27) P = some true := by
  unfold laws_eqFace.f laws_eqInt8A26.f laws_eqPairS.f
  have h1 := eq26_l0 L 26 k 0 (by omega) (by omega)
  have h2 := eqPairS_l0 P (by omega) P.length k 0 (by omega) (by omega)
  rw [show ((0 : Nat) : Int) = 0 from rfl] at h1 h2
  rw [h1, Option.bind_some, if_pos rfl, if_pos rfl, if_pos rfl, if_pos rfl, h2, Option.bind_some, if_pos rfl]
theorem size_le {lp : List LP} (h : lp.length ≤ 1048576) : (lp.map toP).length ≤ 1048576 := by rwa [List.length_map]
end Go.Proofs.YticjkfacdmmopaaDoor.Pure


namespace Go.Proofs.YticjkfacdmmopaaDoor.Ext
end Go.Proofs.YticjkfacdmmopaaDoor.Ext
namespace Go.Proofs.YticjkfacdmmopaaDoor.Q
open Go.Proofs.YticjkfacdmmopaaDoor.Ext
open Go.RowKit Go.Proofs.YticjkfacdmmopaaDoorW.PrintWords Go.Proofs.YticjkfacdmmopaaDoorW.PrintLast Go.Proofs.YticjkfacdmmopaaDoorW.PrintMore
attribute [local go_sem] max2_int min2_int max_two min_two max_three min_three max_four min_four   -- for this text's walks alone
set_option linter.unusedVariables false
set_option linter.unusedSimpArgs false

/-! ### laws_FnExactWordWide: function 3 -/
def laws_FnExactWordWide.j0 : Nat → Bool → Int → Int → Int → Int → Int → Int → Int → Int → Int → Int → Int → Int → Int → Int → Int → Int → Int → Int → Int → Int → Int → Int → Int → Int → Int → Int → Int → Int → List (S139) → Int → Int → Int → Int → Int → Int → Int → Int → Int → Int → Int → Int → Int → Int → Int → Int → Int → Int → Int → Int → Int → Int → Int → Int → Int → Int → Int → Int → List (S137) → Option (Bool)
  | 0, _, _, _, _, _, _, _, _, _, _, _, _, _, _, _, _, _, _, _, _, _, _, _, _, _, _, _, _, _, _, _, _, _, _, _, _, _, _, _, _, _, _, _, _, _, _, _, _, _, _, _, _, _, _, _, _, _, _, _ => none
  | k + 1, x41, x188000, x188001, x188002, x188003, x188004, x188005, x188006, x188007, x188008, x188009, x188010, x188011, x188012, x188013, x188014, x188015, x188016, x188017, x188018, x188019, x188020, x188021, x188022, x188023, x188024, x188025, x188026, x188027, x188028, x254000, x254001, x254002, x254003, x254004, x254005, x254006, x254007, x254008, x254009, x254010, x254011, x254012, x254013, x254014, x254015, x254016, x254017, x254018, x254019, x254020, x254021, x254022, x254023, x254024, x254025, x254026, x254027, x254028 => if x41 = true then (some false) else ((laws_toFace.f x188000 x188001 x188002 x188003 x188004 x188005 x188006 x188007 x188008 x188009 x188010 x188011 x188012 x188013 x188014 x188015 x188016 x188017 x188018 x188019 x188020 x188021 x188022 x188023 x188024 x188025 x188026 x188027 x188028).bind fun bt256 => ((laws_eqFace.f k x254000 x254001 x254002 x254003 x254004 x254005 x254006 x254007 x254008 x254009 x254010 x254011 x254012 x254013 x254014 x254015 x254016 x254017 x254018 x254019 x254020 x254021 x254022 x254023 x254024 x254025 x254026 x254027 x254028 bt256.1 bt256.2.1 bt256.2.2.1 bt256.2.2.2.1 bt256.2.2.2.2.1 bt256.2.2.2.2.2.1 bt256.2.2.2.2.2.2.1 bt256.2.2.2.2.2.2.2.1 bt256.2.2.2.2.2.2.2.2.1 bt256.2.2.2.2.2.2.2.2.2.1 bt256.2.2.2.2.2.2.2.2.2.2.1 bt256.2.2.2.2.2.2.2.2.2.2.2.1 bt256.2.2.2.2.2.2.2.2.2.2.2.2.1 bt256.2.2.2.2.2.2.2.2.2.2.2.2.2.1 bt256.2.2.2.2.2.2.2.2.2.2.2.2.2.2.1 bt256.2.2.2.2.2.2.2.2.2.2.2.2.2.2.2.1 bt256.2.2.2.2.2.2.2.2.2.2.2.2.2.2.2.2.1 bt256.2.2.2.2.2.2.2.2.2.2.2.2.2.2.2.2.2.1 bt256.2.2.2.2.2.2.2.2.2.2.2.2.2.2.2.2.2.2.1 bt256.2.2.2.2.2.2.2.2.2.2.2.2.2.2.2.2.2.2.2.1 bt256.2.2.2.2.2.2.2.2.2.2.2.2.2.2.2.2.2.2.2.2.1 bt256.2.2.2.2.2.2.2.2.2.2.2.2.2.2.2.2.2.2.2.2.2.1 bt256.2.2.2.2.2.2.2.2.2.2.2.2.2.2.2.2.2.2.2.2.2.2.1 bt256.2.2.2.2.2.2.2.2.2.2.2.2.2.2.2.2.2.2.2.2.2.2.2.1 bt256.2.2.2.2.2.2.2.2.2.2.2.2.2.2.2.2.2.2.2.2.2.2.2.2.1 bt256.2.2.2.2.2.2.2.2.2.2.2.2.2.2.2.2.2.2.2.2.2.2.2.2.2.1 bt256.2.2.2.2.2.2.2.2.2.2.2.2.2.2.2.2.2.2.2.2.2.2.2.2.2.2.1 bt256.2.2.2.2.2.2.2.2.2.2.2.2.2.2.2.2.2.2.2.2.2.2.2.2.2.2.2.1 bt256.2.2.2.2.2.2.2.2.2.2.2.2.2.2.2.2.2.2.2.2.2.2.2.2.2.2.2.2).bind fun t287 => (if t287 = true then (some true) else (some false))))
def laws_FnExactWordWide.f (k : Nat) (a0_0 a0_1 a0_2 a0_3 a0_4 a0_5 a0_6 a0_7 a0_8 a0_9 a0_10 a0_11 a0_12 a0_13 a0_14 a0_15 a0_16 a0_17 a0_18 a0_19 a0_20 a0_21 a0_22 a0_23 a0_24 a0_25 a0_26 a0_27 : Int) (l0_28 : List (S139)) (a1 : ByteArray) : Option (Bool) := if (a1.size : Int) > 1048576 then (some true) else ((laws_szFace.f a0_0 a0_1 a0_2 a0_3 a0_4 a0_5 a0_6 a0_7 a0_8 a0_9 a0_10 a0_11 a0_12 a0_13 a0_14 a0_15 a0_16 a0_17 a0_18 a0_19 a0_20 a0_21 a0_22 a0_23 a0_24 a0_25 a0_26 a0_27 l0_28 1048576).bind fun t188 => (if t188 < 0 then (some true) else ((laws_toFace.f a0_0 a0_1 a0_2 a0_3 a0_4 a0_5 a0_6 a0_7 a0_8 a0_9 a0_10 a0_11 a0_12 a0_13 a0_14 a0_15 a0_16 a0_17 a0_18 a0_19 a0_20 a0_21 a0_22 a0_23 a0_24 a0_25 a0_26 a0_27 l0_28).bind fun bt189 => ((spec_WordWide.f k bt189.1 bt189.2.1 bt189.2.2.1 bt189.2.2.2.1 bt189.2.2.2.2.1 bt189.2.2.2.2.2.1 bt189.2.2.2.2.2.2.1 bt189.2.2.2.2.2.2.2.1 bt189.2.2.2.2.2.2.2.2.1 bt189.2.2.2.2.2.2.2.2.2.1 bt189.2.2.2.2.2.2.2.2.2.2.1 bt189.2.2.2.2.2.2.2.2.2.2.2.1 bt189.2.2.2.2.2.2.2.2.2.2.2.2.1 bt189.2.2.2.2.2.2.2.2.2.2.2.2.2.1 bt189.2.2.2.2.2.2.2.2.2.2.2.2.2.2.1 bt189.2.2.2.2.2.2.2.2.2.2.2.2.2.2.2.1 bt189.2.2.2.2.2.2.2.2.2.2.2.2.2.2.2.2.1 bt189.2.2.2.2.2.2.2.2.2.2.2.2.2.2.2.2.2.1 bt189.2.2.2.2.2.2.2.2.2.2.2.2.2.2.2.2.2.2.1 bt189.2.2.2.2.2.2.2.2.2.2.2.2.2.2.2.2.2.2.2.1 bt189.2.2.2.2.2.2.2.2.2.2.2.2.2.2.2.2.2.2.2.2.1 bt189.2.2.2.2.2.2.2.2.2.2.2.2.2.2.2.2.2.2.2.2.2.1 bt189.2.2.2.2.2.2.2.2.2.2.2.2.2.2.2.2.2.2.2.2.2.2.1 bt189.2.2.2.2.2.2.2.2.2.2.2.2.2.2.2.2.2.2.2.2.2.2.2.1 bt189.2.2.2.2.2.2.2.2.2.2.2.2.2.2.2.2.2.2.2.2.2.2.2.2.1 bt189.2.2.2.2.2.2.2.2.2.2.2.2.2.2.2.2.2.2.2.2.2.2.2.2.2.1 bt189.2.2.2.2.2.2.2.2.2.2.2.2.2.2.2.2.2.2.2.2.2.2.2.2.2.2.1 bt189.2.2.2.2.2.2.2.2.2.2.2.2.2.2.2.2.2.2.2.2.2.2.2.2.2.2.2.1 bt189.2.2.2.2.2.2.2.2.2.2.2.2.2.2.2.2.2.2.2.2.2.2.2.2.2.2.2.2 a1).bind fun bt220 => ((laws_toFace.f a0_0 a0_1 a0_2 a0_3 a0_4 a0_5 a0_6 a0_7 a0_8 a0_9 a0_10 a0_11 a0_12 a0_13 a0_14 a0_15 a0_16 a0_17 a0_18 a0_19 a0_20 a0_21 a0_22 a0_23 a0_24 a0_25 a0_26 a0_27 l0_28).bind fun bt222 => ((impl_WordWide.f k bt222.1 bt222.2.1 bt222.2.2.1 bt222.2.2.2.1 bt222.2.2.2.2.1 bt222.2.2.2.2.2.1 bt222.2.2.2.2.2.2.1 bt222.2.2.2.2.2.2.2.1 bt222.2.2.2.2.2.2.2.2.1 bt222.2.2.2.2.2.2.2.2.2.1 bt222.2.2.2.2.2.2.2.2.2.2.1 bt222.2.2.2.2.2.2.2.2.2.2.2.1 bt222.2.2.2.2.2.2.2.2.2.2.2.2.1 bt222.2.2.2.2.2.2.2.2.2.2.2.2.2.1 bt222.2.2.2.2.2.2.2.2.2.2.2.2.2.2.1 bt222.2.2.2.2.2.2.2.2.2.2.2.2.2.2.2.1 bt222.2.2.2.2.2.2.2.2.2.2.2.2.2.2.2.2.1 bt222.2.2.2.2.2.2.2.2.2.2.2.2.2.2.2.2.2.1 bt222.2.2.2.2.2.2.2.2.2.2.2.2.2.2.2.2.2.2.1 bt222.2.2.2.2.2.2.2.2.2.2.2.2.2.2.2.2.2.2.2.1 bt222.2.2.2.2.2.2.2.2.2.2.2.2.2.2.2.2.2.2.2.2.1 bt222.2.2.2.2.2.2.2.2.2.2.2.2.2.2.2.2.2.2.2.2.2.1 bt222.2.2.2.2.2.2.2.2.2.2.2.2.2.2.2.2.2.2.2.2.2.2.1 bt222.2.2.2.2.2.2.2.2.2.2.2.2.2.2.2.2.2.2.2.2.2.2.2.1 bt222.2.2.2.2.2.2.2.2.2.2.2.2.2.2.2.2.2.2.2.2.2.2.2.2.1 bt222.2.2.2.2.2.2.2.2.2.2.2.2.2.2.2.2.2.2.2.2.2.2.2.2.2.1 bt222.2.2.2.2.2.2.2.2.2.2.2.2.2.2.2.2.2.2.2.2.2.2.2.2.2.2.1 bt222.2.2.2.2.2.2.2.2.2.2.2.2.2.2.2.2.2.2.2.2.2.2.2.2.2.2.2.1 bt222.2.2.2.2.2.2.2.2.2.2.2.2.2.2.2.2.2.2.2.2.2.2.2.2.2.2.2.2 a1).bind fun bt254 => (if bt254.1 = bt220.1 then (laws_FnExactWordWide.j0 k (bt254.2 != bt220.2) a0_0 a0_1 a0_2 a0_3 a0_4 a0_5 a0_6 a0_7 a0_8 a0_9 a0_10 a0_11 a0_12 a0_13 a0_14 a0_15 a0_16 a0_17 a0_18 a0_19 a0_20 a0_21 a0_22 a0_23 a0_24 a0_25 a0_26 a0_27 l0_28 bt222.1 bt222.2.1 bt222.2.2.1 bt222.2.2.2.1 bt222.2.2.2.2.1 bt222.2.2.2.2.2.1 bt222.2.2.2.2.2.2.1 bt222.2.2.2.2.2.2.2.1 bt222.2.2.2.2.2.2.2.2.1 bt222.2.2.2.2.2.2.2.2.2.1 bt222.2.2.2.2.2.2.2.2.2.2.1 bt222.2.2.2.2.2.2.2.2.2.2.2.1 bt222.2.2.2.2.2.2.2.2.2.2.2.2.1 bt222.2.2.2.2.2.2.2.2.2.2.2.2.2.1 bt222.2.2.2.2.2.2.2.2.2.2.2.2.2.2.1 bt222.2.2.2.2.2.2.2.2.2.2.2.2.2.2.2.1 bt222.2.2.2.2.2.2.2.2.2.2.2.2.2.2.2.2.1 bt222.2.2.2.2.2.2.2.2.2.2.2.2.2.2.2.2.2.1 bt222.2.2.2.2.2.2.2.2.2.2.2.2.2.2.2.2.2.2.1 bt222.2.2.2.2.2.2.2.2.2.2.2.2.2.2.2.2.2.2.2.1 bt222.2.2.2.2.2.2.2.2.2.2.2.2.2.2.2.2.2.2.2.2.1 bt222.2.2.2.2.2.2.2.2.2.2.2.2.2.2.2.2.2.2.2.2.2.1 bt222.2.2.2.2.2.2.2.2.2.2.2.2.2.2.2.2.2.2.2.2.2.2.1 bt222.2.2.2.2.2.2.2.2.2.2.2.2.2.2.2.2.2.2.2.2.2.2.2.1 bt222.2.2.2.2.2.2.2.2.2.2.2.2.2.2.2.2.2.2.2.2.2.2.2.2.1 bt222.2.2.2.2.2.2.2.2.2.2.2.2.2.2.2.2.2.2.2.2.2.2.2.2.2.1 bt222.2.2.2.2.2.2.2.2.2.2.2.2.2.2.2.2.2.2.2.2.2.2.2.2.2.2.1 bt222.2.2.2.2.2.2.2.2.2.2.2.2.2.2.2.2.2.2.2.2.2.2.2.2.2.2.2.1 bt222.2.2.2.2.2.2.2.2.2.2.2.2.2.2.2.2.2.2.2.2.2.2.2.2.2.2.2.2) else (laws_FnExactWordWide.j0 k true a0_0 a0_1 a0_2 a0_3 a0_4 a0_5 a0_6 a0_7 a0_8 a0_9 a0_10 a0_11 a0_12 a0_13 a0_14 a0_15 a0_16 a0_17 a0_18 a0_19 a0_20 a0_21 a0_22 a0_23 a0_24 a0_25 a0_26 a0_27 l0_28 bt222.1 bt222.2.1 bt222.2.2.1 bt222.2.2.2.1 bt222.2.2.2.2.1 bt222.2.2.2.2.2.1 bt222.2.2.2.2.2.2.1 bt222.2.2.2.2.2.2.2.1 bt222.2.2.2.2.2.2.2.2.1 bt222.2.2.2.2.2.2.2.2.2.1 bt222.2.2.2.2.2.2.2.2.2.2.1 bt222.2.2.2.2.2.2.2.2.2.2.2.1 bt222.2.2.2.2.2.2.2.2.2.2.2.2.1 bt222.2.2.2.2.2.2.2.2.2.2.2.2.2.1 bt222.2.2.2.2.2.2.2.2.2.2.2.2.2.2.1 bt222.2.2.2.2.2.2.2.2.2.2.2.2.2.2.2.1 bt222.2.2.2.2.2.2.2.2.2.2.2.2.2.2.2.2.1 bt222.2.2.2.2.2.2.2.2.2.2.2.2.2.2.2.2.2.1 bt222.2.2.2.2.2.2.2.2.2.2.2.2.2.2.2.2.2.2.1 bt222.2.2.2.2.2.2.2.2.2.2.2.2.2.2.2.2.2.2.2.1 bt222.2.2.2.2.2.2.2.2.2.2.2.2.2.2.2.2.2.2.2.2.1 bt222.2.2.2.2.2.2.2.2.2.2.2.2.2.2.2.2.2.2.2.2.2.1 bt222.2.2.2.2.2.2.2.2.2.2.2.2.2.2.2.2.2.2.2.2.2.2.1 bt222.2.2.2.2.2.2.2.2.2.2.2.2.2.2.2.2.2.2.2.2.2.2.2.1 bt222.2.2.2.2.2.2.2.2.2.2.2.2.2.2.2.2.2.2.2.2.2.2.2.2.1 bt222.2.2.2.2.2.2.2.2.2.2.2.2.2.2.2.2.2.2.2.2.2.2.2.2.2.1 bt222.2.2.2.2.2.2.2.2.2.2.2.2.2.2.2.2.2.2.2.2.2.2.2.2.2.2.1 bt222.2.2.2.2.2.2.2.2.2.2.2.2.2.2.2.2.2.2.2.2.2.2.2.2.2.2.2.1 bt222.2.2.2.2.2.2.2.2.2.2.2.2.2.2.2.2.2.2.2.2.2.2.2.2.2.2.2.2))))))))
theorem laws_FnExactWordWide.mono_l : ∀ k, (∀ y0 y1 y2 y3 y4 y5 y6 y7 y8 y9 y10 y11 y12 y13 y14 y15 y16 y17 y18 y19 y20 y21 y22 y23 y24 y25 y26 y27 y28 y29 y30 y31 y32 y33 y34 y35 y36 y37 y38 y39 y40 y41 y42 y43 y44 y45 y46 y47 y48 y49 y50 y51 y52 y53 y54 y55 y56 y57 y58, LeO (laws_FnExactWordWide.j0 k y0 y1 y2 y3 y4 y5 y6 y7 y8 y9 y10 y11 y12 y13 y14 y15 y16 y17 y18 y19 y20 y21 y22 y23 y24 y25 y26 y27 y28 y29 y30 y31 y32 y33 y34 y35 y36 y37 y38 y39 y40 y41 y42 y43 y44 y45 y46 y47 y48 y49 y50 y51 y52 y53 y54 y55 y56 y57 y58) (laws_FnExactWordWide.j0 (k + 1) y0 y1 y2 y3 y4 y5 y6 y7 y8 y9 y10 y11 y12 y13 y14 y15 y16 y17 y18 y19 y20 y21 y22 y23 y24 y25 y26 y27 y28 y29 y30 y31 y32 y33 y34 y35 y36 y37 y38 y39 y40 y41 y42 y43 y44 y45 y46 y47 y48 y49 y50 y51 y52 y53 y54 y55 y56 y57 y58))
  | 0 => fun _ _ _ _ _ _ _ _ _ _ _ _ _ _ _ _ _ _ _ _ _ _ _ _ _ _ _ _ _ _ _ _ _ _ _ _ _ _ _ _ _ _ _ _ _ _ _ _ _ _ _ _ _ _ _ _ _ _ _ r h => by simp [laws_FnExactWordWide.j0] at h
  | k + 1 => by
    have ih0 := laws_FnExactWordWide.mono_l k
    · intro y0 y1 y2 y3 y4 y5 y6 y7 y8 y9 y10 y11 y12 y13 y14 y15 y16 y17 y18 y19 y20 y21 y22 y23 y24 y25 y26 y27 y28 y29 y30 y31 y32 y33 y34 y35 y36 y37 y38 y39 y40 y41 y42 y43 y44 y45 y46 y47 y48 y49 y50 y51 y52 y53 y54 y55 y56 y57 y58
      unfold laws_FnExactWordWide.j0
      repeat' first
      | (with_reducible exact ih0 _ _ _ _ _ _ _ _ _ _ _ _ _ _ _ _ _ _ _ _ _ _ _ _ _ _ _ _ _ _ _ _ _ _ _ _ _ _ _ _ _ _ _ _ _ _ _ _ _ _ _ _ _ _ _ _ _ _ _)
      | (with_reducible exact impl_WordWide.mono _ _ _ _ _ _ _ _ _ _ _ _ _ _ _ _ _ _ _ _ _ _ _ _ _ _ _ _ _ _ _)
      | (with_reducible exact laws_eqFace.mono _ _ _ _ _ _ _ _ _ _ _ _ _ _ _ _ _ _ _ _ _ _ _ _ _ _ _ _ _ _ _ _ _ _ _ _ _ _ _ _ _ _ _ _ _ _ _ _ _ _ _ _ _ _ _ _ _ _ _)
      | (with_reducible exact spec_WordWide.mono _ _ _ _ _ _ _ _ _ _ _ _ _ _ _ _ _ _ _ _ _ _ _ _ _ _ _ _ _ _ _)
      | (with_reducible exact LeO.refl _)
      | (with_reducible exact LeO.none _)
      | (with_reducible refine LeO.ite ?_ ?_)
      | (with_reducible refine LeO.bind ?_ (fun _ => ?_))
      | exact ih0 _ _ _ _ _ _ _ _ _ _ _ _ _ _ _ _ _ _ _ _ _ _ _ _ _ _ _ _ _ _ _ _ _ _ _ _ _ _ _ _ _ _ _ _ _ _ _ _ _ _ _ _ _ _ _ _ _ _ _
      | exact impl_WordWide.mono _ _ _ _ _ _ _ _ _ _ _ _ _ _ _ _ _ _ _ _ _ _ _ _ _ _ _ _ _ _ _
      | exact laws_eqFace.mono _ _ _ _ _ _ _ _ _ _ _ _ _ _ _ _ _ _ _ _ _ _ _ _ _ _ _ _ _ _ _ _ _ _ _ _ _ _ _ _ _ _ _ _ _ _ _ _ _ _ _ _ _ _ _ _ _ _ _
      | exact spec_WordWide.mono _ _ _ _ _ _ _ _ _ _ _ _ _ _ _ _ _ _ _ _ _ _ _ _ _ _ _ _ _ _ _
      | exact LeO.none _
      | refine LeO.ite ?_ ?_
      | refine LeO.bind ?_ (fun _ => ?_)
theorem laws_FnExactWordWide.mono : ∀ a0 a1 a2 a3 a4 a5 a6 a7 a8 a9 a10 a11 a12 a13 a14 a15 a16 a17 a18 a19 a20 a21 a22 a23 a24 a25 a26 a27 a28 a29 k, LeO (laws_FnExactWordWide.f k a0 a1 a2 a3 a4 a5 a6 a7 a8 a9 a10 a11 a12 a13 a14 a15 a16 a17 a18 a19 a20 a21 a22 a23 a24 a25 a26 a27 a28 a29) (laws_FnExactWordWide.f (k + 1) a0 a1 a2 a3 a4 a5 a6 a7 a8 a9 a10 a11 a12 a13 a14 a15 a16 a17 a18 a19 a20 a21 a22 a23 a24 a25 a26 a27 a28 a29) := by
  intro a0 a1 a2 a3 a4 a5 a6 a7 a8 a9 a10 a11 a12 a13 a14 a15 a16 a17 a18 a19 a20 a21 a22 a23 a24 a25 a26 a27 a28 a29 k
  have ih0 := laws_FnExactWordWide.mono_l k
  unfold laws_FnExactWordWide.f
  repeat' first
      | (with_reducible exact ih0 _ _ _ _ _ _ _ _ _ _ _ _ _ _ _ _ _ _ _ _ _ _ _ _ _ _ _ _ _ _ _ _ _ _ _ _ _ _ _ _ _ _ _ _ _ _ _ _ _ _ _ _ _ _ _ _ _ _ _)
      | (with_reducible exact impl_WordWide.mono _ _ _ _ _ _ _ _ _ _ _ _ _ _ _ _ _ _ _ _ _ _ _ _ _ _ _ _ _ _ _)
      | (with_reducible exact laws_eqFace.mono _ _ _ _ _ _ _ _ _ _ _ _ _ _ _ _ _ _ _ _ _ _ _ _ _ _ _ _ _ _ _ _ _ _ _ _ _ _ _ _ _ _ _ _ _ _ _ _ _ _ _ _ _ _ _ _ _ _ _)
      | (with_reducible exact spec_WordWide.mono _ _ _ _ _ _ _ _ _ _ _ _ _ _ _ _ _ _ _ _ _ _ _ _ _ _ _ _ _ _ _)
      | (with_reducible exact LeO.refl _)
      | (with_reducible exact LeO.none _)
      | (with_reducible refine LeO.ite ?_ ?_)
      | (with_reducible refine LeO.bind ?_ (fun _ => ?_))
      | exact ih0 _ _ _ _ _ _ _ _ _ _ _ _ _ _ _ _ _ _ _ _ _ _ _ _ _ _ _ _ _ _ _ _ _ _ _ _ _ _ _ _ _ _ _ _ _ _ _ _ _ _ _ _ _ _ _ _ _ _ _
      | exact impl_WordWide.mono _ _ _ _ _ _ _ _ _ _ _ _ _ _ _ _ _ _ _ _ _ _ _ _ _ _ _ _ _ _ _
      | exact laws_eqFace.mono _ _ _ _ _ _ _ _ _ _ _ _ _ _ _ _ _ _ _ _ _ _ _ _ _ _ _ _ _ _ _ _ _ _ _ _ _ _ _ _ _ _ _ _ _ _ _ _ _ _ _ _ _ _ _ _ _ _ _
      | exact spec_WordWide.mono _ _ _ _ _ _ _ _ _ _ _ _ _ _ _ _ _ _ _ _ _ _ _ _ _ _ _ _ _ _ _
      | exact LeO.none _
      | refine LeO.ite ?_ ?_
      | refine LeO.bind ?_ (fun _ => ?_)
set_option maxHeartbeats 8000000 in
set_option maxRecDepth 100000 in
theorem laws_FnExactWordWide.calls (k : Nat) (a0_0 a0_1 a0_2 a0_3 a0_4 a0_5 a0_6 a0_7 a0_8 a0_9 a0_10 a0_11 a0_12 a0_13 a0_14 a0_15 a0_16 a0_17 a0_18 a0_19 a0_20 a0_21 a0_22 a0_23 a0_24 a0_25 a0_26 a0_27 : Int) (A0_28 : Option Addr) (c0_28 : Nat) (l0_28 : List (S139)) (a1 : ByteArray) (r : Bool) (w : World) (hr0_28 : Kd.C k139 w A0_28 l0_28.length l0_28) (hc0_28 : l0_28.length ≤ c0_28) (hG : GlobM w) (h : laws_FnExactWordWide.f k a0_0 a0_1 a0_2 a0_3 a0_4 a0_5 a0_6 a0_7 a0_8 a0_9 a0_10 a0_11 a0_12 a0_13 a0_14 a0_15 a0_16 a0_17 a0_18 a0_19 a0_20 a0_21 a0_22 a0_23 a0_24 a0_25 a0_26 a0_27 l0_28 a1 = some r) :
    Calls Tryd.prog 3 #[.agg #[.int .i8 a0_0, .int .i8 a0_1, .int .i8 a0_2, .int .i8 a0_3, .int .i8 a0_4, .int .i8 a0_5, .int .i8 a0_6, .int .i8 a0_7, .int .i8 a0_8, .int .i8 a0_9, .int .i8 a0_10, .int .i8 a0_11, .int .i8 a0_12, .int .i8 a0_13, .int .i8 a0_14, .int .i8 a0_15, .int .i8 a0_16, .int .i8 a0_17, .int .i8 a0_18, .int .i8 a0_19, .int .i8 a0_20, .int .i8 a0_21, .int .i8 a0_22, .int .i8 a0_23, .int .i8 a0_24, .int .i8 a0_25, .int .i8 a0_26, .int .i8 a0_27, .slice A0_28 l0_28.length c0_28], .string a1] w fun e w' => e = .returned (.bool r) ∧ Below w.heap.size w w' := by
  have HG := Aside0.mk hG
  clear hG
  have hu26 := Tryd.underlying26
  have hu32 := Tryd.underlying32
  have HR0_28 := Aside0.mk hr0_28
  have HC0_28 := Aside0.mk hc0_28
  clear hr0_28 hc0_28
  have HB := Aside0.mk (Below.refl w.heap.size w)
  have H : (if (a1.size : Int) > 1048576 then (some true) else ((laws_szFace.f a0_0 a0_1 a0_2 a0_3 a0_4 a0_5 a0_6 a0_7 a0_8 a0_9 a0_10 a0_11 a0_12 a0_13 a0_14 a0_15 a0_16 a0_17 a0_18 a0_19 a0_20 a0_21 a0_22 a0_23 a0_24 a0_25 a0_26 a0_27 l0_28 1048576).bind fun t188 => (if t188 < 0 then (some true) else ((laws_toFace.f a0_0 a0_1 a0_2 a0_3 a0_4 a0_5 a0_6 a0_7 a0_8 a0_9 a0_10 a0_11 a0_12 a0_13 a0_14 a0_15 a0_16 a0_17 a0_18 a0_19 a0_20 a0_21 a0_22 a0_23 a0_24 a0_25 a0_26 a0_27 l0_28).bind fun bt189 => ((spec_WordWide.f k bt189.1 bt189.2.1 bt189.2.2.1 bt189.2.2.2.1 bt189.2.2.2.2.1 bt189.2.2.2.2.2.1 bt189.2.2.2.2.2.2.1 bt189.2.2.2.2.2.2.2.1 bt189.2.2.2.2.2.2.2.2.1 bt189.2.2.2.2.2.2.2.2.2.1 bt189.2.2.2.2.2.2.2.2.2.2.1 bt189.2.2.2.2.2.2.2.2.2.2.2.1 bt189.2.2.2.2.2.2.2.2.2.2.2.2.1 bt189.2.2.2.2.2.2.2.2.2.2.2.2.2.1 bt189.2.2.2.2.2.2.2.2.2.2.2.2.2.2.1 bt189.2.2.2.2.2.2.2.2.2.2.2.2.2.2.2.1 bt189.2.2.2.2.2.2.2.2.2.2.2.2.2.2.2.2.1 bt189.2.2.2.2.2.2.2.2.2.2.2.2.2.2.2.2.2.1 bt189.2.2.2.2.2.2.2.2.2.2.2.2.2.2.2.2.2.2.1 bt189.2.2.2.2.2.2.2.2.2.2.2.2.2.2.2.2.2.2.2.1 bt189.2.2.2.2.2.2.2.2.2.2.2.2.2.2.2.2.2.2.2.2.1 bt189.2.2.2.2.2.2.2.2.2.2.2.2.2.2.2.2.2.2.2.2.2.1 bt189.2.2.2.2.2.2.2.2.2.2.2.2.2.2.2.2.2.2.2.2.2.2.1 bt189.2.2.2.2.2.2.2.2.2.2.2.2.2.2.2.2.2.2.2.2.2.2.2.1 bt189.2.2.2.2.2.2.2.2.2.2.2.2.2.2.2.2.2.2.2.2.2.2.2.2.1 bt189.2.2.2.2.2.2.2.2.2.2.2.2.2.2.2.2.2.2.2.2.2.2.2.2.2.1 bt189.2.2.2.2.2.2.2.2.2.2.2.2.2.2.2.2.2.2.2.2.2.2.2.2.2.2.1 bt189.2.2.2.2.2.2.2.2.2.2.2.2.2.2.2.2.2.2.2.2.2.2.2.2.2.2.2.1 bt189.2.2.2.2.2.2.2.2.2.2.2.2.2.2.2.2.2.2.2.2.2.2.2.2.2.2.2.2 a1).bind fun bt220 => ((laws_toFace.f a0_0 a0_1 a0_2 a0_3 a0_4 a0_5 a0_6 a0_7 a0_8 a0_9 a0_10 a0_11 a0_12 a0_13 a0_14 a0_15 a0_16 a0_17 a0_18 a0_19 a0_20 a0_21 a0_22 a0_23 a0_24 a0_25 a0_26 a0_27 l0_28).bind fun bt222 => ((impl_WordWide.f k bt222.1 bt222.2.1 bt222.2.2.1 bt222.2.2.2.1 bt222.2.2.2.2.1 bt222.2.2.2.2.2.1 bt222.2.2.2.2.2.2.1 bt222.2.2.2.2.2.2.2.1 bt222.2.2.2.2.2.2.2.2.1 bt222.2.2.2.2.2.2.2.2.2.1 bt222.2.2.2.2.2.2.2.2.2.2.1 bt222.2.2.2.2.2.2.2.2.2.2.2.1 bt222.2.2.2.2.2.2.2.2.2.2.2.2.1 bt222.2.2.2.2.2.2.2.2.2.2.2.2.2.1 bt222.2.2.2.2.2.2.2.2.2.2.2.2.2.2.1 bt222.2.2.2.2.2.2.2.2.2.2.2.2.2.2.2.1 bt222.2.2.2.2.2.2.2.2.2.2.2.2.2.2.2.2.1 bt222.2.2.2.2.2.2.2.2.2.2.2.2.2.2.2.2.2.1 bt222.2.2.2.2.2.2.2.2.2.2.2.2.2.2.2.2.2.2.1 bt222.2.2.2.2.2.2.2.2.2.2.2.2.2.2.2.2.2.2.2.1 bt222.2.2.2.2.2.2.2.2.2.2.2.2.2.2.2.2.2.2.2.2.1 bt222.2.2.2.2.2.2.2.2.2.2.2.2.2.2.2.2.2.2.2.2.2.1 bt222.2.2.2.2.2.2.2.2.2.2.2.2.2.2.2.2.2.2.2.2.2.2.1 bt222.2.2.2.2.2.2.2.2.2.2.2.2.2.2.2.2.2.2.2.2.2.2.2.1 bt222.2.2.2.2.2.2.2.2.2.2.2.2.2.2.2.2.2.2.2.2.2.2.2.2.1 bt222.2.2.2.2.2.2.2.2.2.2.2.2.2.2.2.2.2.2.2.2.2.2.2.2.2.1 bt222.2.2.2.2.2.2.2.2.2.2.2.2.2.2.2.2.2.2.2.2.2.2.2.2.2.2.1 bt222.2.2.2.2.2.2.2.2.2.2.2.2.2.2.2.2.2.2.2.2.2.2.2.2.2.2.2.1 bt222.2.2.2.2.2.2.2.2.2.2.2.2.2.2.2.2.2.2.2.2.2.2.2.2.2.2.2.2 a1).bind fun bt254 => (if bt254.1 = bt220.1 then (laws_FnExactWordWide.j0 k (bt254.2 != bt220.2) a0_0 a0_1 a0_2 a0_3 a0_4 a0_5 a0_6 a0_7 a0_8 a0_9 a0_10 a0_11 a0_12 a0_13 a0_14 a0_15 a0_16 a0_17 a0_18 a0_19 a0_20 a0_21 a0_22 a0_23 a0_24 a0_25 a0_26 a0_27 l0_28 bt222.1 bt222.2.1 bt222.2.2.1 bt222.2.2.2.1 bt222.2.2.2.2.1 bt222.2.2.2.2.2.1 bt222.2.2.2.2.2.2.1 bt222.2.2.2.2.2.2.2.1 bt222.2.2.2.2.2.2.2.2.1 bt222.2.2.2.2.2.2.2.2.2.1 bt222.2.2.2.2.2.2.2.2.2.2.1 bt222.2.2.2.2.2.2.2.2.2.2.2.1 bt222.2.2.2.2.2.2.2.2.2.2.2.2.1 bt222.2.2.2.2.2.2.2.2.2.2.2.2.2.1 bt222.2.2.2.2.2.2.2.2.2.2.2.2.2.2.1 bt222.2.2.2.2.2.2.2.2.2.2.2.2.2.2.2.1 bt222.2.2.2.2.2.2.2.2.2.2.2.2.2.2.2.2.1 bt222.2.2.2.2.2.2.2.2.2.2.2.2.2.2.2.2.2.1 bt222.2.2.2.2.2.2.2.2.2.2.2.2.2.2.2.2.2.2.1 bt222.2.2.2.2.2.2.2.2.2.2.2.2.2.2.2.2.2.2.2.1 bt222.2.2.2.2.2.2.2.2.2.2.2.2.2.2.2.2.2.2.2.2.1 bt222.2.2.2.2.2.2.2.2.2.2.2.2.2.2.2.2.2.2.2.2.2.1 bt222.2.2.2.2.2.2.2.2.2.2.2.2.2.2.2.2.2.2.2.2.2.2.1 bt222.2.2.2.2.2.2.2.2.2.2.2.2.2.2.2.2.2.2.2.2.2.2.2.1 bt222.2.2.2.2.2.2.2.2.2.2.2.2.2.2.2.2.2.2.2.2.2.2.2.2.1 bt222.2.2.2.2.2.2.2.2.2.2.2.2.2.2.2.2.2.2.2.2.2.2.2.2.2.1 bt222.2.2.2.2.2.2.2.2.2.2.2.2.2.2.2.2.2.2.2.2.2.2.2.2.2.2.1 bt222.2.2.2.2.2.2.2.2.2.2.2.2.2.2.2.2.2.2.2.2.2.2.2.2.2.2.2.1 bt222.2.2.2.2.2.2.2.2.2.2.2.2.2.2.2.2.2.2.2.2.2.2.2.2.2.2.2.2) else (laws_FnExactWordWide.j0 k true a0_0 a0_1 a0_2 a0_3 a0_4 a0_5 a0_6 a0_7 a0_8 a0_9 a0_10 a0_11 a0_12 a0_13 a0_14 a0_15 a0_16 a0_17 a0_18 a0_19 a0_20 a0_21 a0_22 a0_23 a0_24 a0_25 a0_26 a0_27 l0_28 bt222.1 bt222.2.1 bt222.2.2.1 bt222.2.2.2.1 bt222.2.2.2.2.1 bt222.2.2.2.2.2.1 bt222.2.2.2.2.2.2.1 bt222.2.2.2.2.2.2.2.1 bt222.2.2.2.2.2.2.2.2.1 bt222.2.2.2.2.2.2.2.2.2.1 bt222.2.2.2.2.2.2.2.2.2.2.1 bt222.2.2.2.2.2.2.2.2.2.2.2.1 bt222.2.2.2.2.2.2.2.2.2.2.2.2.1 bt222.2.2.2.2.2.2.2.2.2.2.2.2.2.1 bt222.2.2.2.2.2.2.2.2.2.2.2.2.2.2.1 bt222.2.2.2.2.2.2.2.2.2.2.2.2.2.2.2.1 bt222.2.2.2.2.2.2.2.2.2.2.2.2.2.2.2.2.1 bt222.2.2.2.2.2.2.2.2.2.2.2.2.2.2.2.2.2.1 bt222.2.2.2.2.2.2.2.2.2.2.2.2.2.2.2.2.2.2.1 bt222.2.2.2.2.2.2.2.2.2.2.2.2.2.2.2.2.2.2.2.1 bt222.2.2.2.2.2.2.2.2.2.2.2.2.2.2.2.2.2.2.2.2.1 bt222.2.2.2.2.2.2.2.2.2.2.2.2.2.2.2.2.2.2.2.2.2.1 bt222.2.2.2.2.2.2.2.2.2.2.2.2.2.2.2.2.2.2.2.2.2.2.1 bt222.2.2.2.2.2.2.2.2.2.2.2.2.2.2.2.2.2.2.2.2.2.2.2.1 bt222.2.2.2.2.2.2.2.2.2.2.2.2.2.2.2.2.2.2.2.2.2.2.2.2.1 bt222.2.2.2.2.2.2.2.2.2.2.2.2.2.2.2.2.2.2.2.2.2.2.2.2.2.1 bt222.2.2.2.2.2.2.2.2.2.2.2.2.2.2.2.2.2.2.2.2.2.2.2.2.2.2.1 bt222.2.2.2.2.2.2.2.2.2.2.2.2.2.2.2.2.2.2.2.2.2.2.2.2.2.2.2.1 bt222.2.2.2.2.2.2.2.2.2.2.2.2.2.2.2.2.2.2.2.2.2.2.2.2.2.2.2.2))))))))) = some r := h
  clear h
  by_cases c3 : (a1.size : Int) > 1048576
  · rw [if_pos c3] at H
    have c3b0 : decide (1048576 < (a1.size : Int)) = true := decide_eq_true c3
    have c3b1 : decide (1048576 < a1.size) = true := decide_eq_true (by omega)
    clear c3
    obtain rfl := Option.some.inj H
    go_enter Tryd.func3, Tryd.ntmps3
    go_wp2_with (first | ((with_reducible refine gate_dst (N := 2) rfl ?_); refine box_event ?hg (N := 2) ?hd (cs := #[.int .i8 a0_0, .int .i8 a0_1, .int .i8 a0_2, .int .i8 a0_3, .int .i8 a0_4, .int .i8 a0_5, .int .i8 a0_6, .int .i8 a0_7, .int .i8 a0_8, .int .i8 a0_9, .int .i8 a0_10, .int .i8 a0_11, .int .i8 a0_12, .int .i8 a0_13, .int .i8 a0_14, .int .i8 a0_15, .int .i8 a0_16, .int .i8 a0_17, .int .i8 a0_18, .int .i8 a0_19, .int .i8 a0_20, .int .i8 a0_21, .int .i8 a0_22, .int .i8 a0_23, .int .i8 a0_24, .int .i8 a0_25, .int .i8 a0_26, .int .i8 a0_27, .slice A0_28 l0_28.length c0_28]) (t := 26) ?hr ?_; (case hd => rfl); (case hg => rfl); (case hr => first | (go_simp; done) | (go_simp; rfl)); intro gb187 hg w4 hbox hb; have n0_ := Aside0.mk (below_step (by repeat (first | (with_reducible first | exact HB.out | apply below_alloc | apply pw_below_drewN | apply below_drew1) | exact HB.out)) hb); have n1_ := Aside0.mk (hbox); have n2_ := Aside0.mk ((by rw [hg]; exact (below_size (by repeat (first | (with_reducible first | exact HB.out | apply below_alloc | apply pw_below_drewN | apply below_drew1) | exact HB.out))) : w.heap.size ≤ gb187)); have n3_ := Aside0.mk ((by rw [hg]; exact (below_size (by repeat (first | (with_reducible first | exact HB.out | apply below_alloc | apply pw_below_drewN | apply below_drew1) | exact HB.out))) : w.heap.size ≤ gb187)); clear HB; have HB := n0_; have BK187 := n1_; have GW187 := n2_; have GE187 := n3_; clear n0_ n1_ n2_ n3_; clear hb hbox hg))
    go_ret
    exact ⟨by first | rfl | (simp [errW_none, errW_some] <;> rfl) | (simp [*, errW_none, errW_some] <;> rfl), by repeat (first | (with_reducible first | exact HB.out | apply below_alloc | apply pw_below_drewN | apply below_drew1 | refine below_set ?_ GE187.out) | exact HB.out)⟩
  · rw [if_neg c3] at H
    have c3b0 : decide (1048576 < (a1.size : Int)) = false := decide_eq_false c3
    have c3b1 : decide (1048576 < a1.size) = false := decide_eq_false (by omega)
    clear c3
    replace H := Option.bind_eq_some_iff.mp H
    obtain ⟨t188, A50, H⟩ := H
    replace H : (if t188 < 0 then (some true) else ((laws_toFace.f a0_0 a0_1 a0_2 a0_3 a0_4 a0_5 a0_6 a0_7 a0_8 a0_9 a0_10 a0_11 a0_12 a0_13 a0_14 a0_15 a0_16 a0_17 a0_18 a0_19 a0_20 a0_21 a0_22 a0_23 a0_24 a0_25 a0_26 a0_27 l0_28).bind fun bt189 => ((spec_WordWide.f k bt189.1 bt189.2.1 bt189.2.2.1 bt189.2.2.2.1 bt189.2.2.2.2.1 bt189.2.2.2.2.2.1 bt189.2.2.2.2.2.2.1 bt189.2.2.2.2.2.2.2.1 bt189.2.2.2.2.2.2.2.2.1 bt189.2.2.2.2.2.2.2.2.2.1 bt189.2.2.2.2.2.2.2.2.2.2.1 bt189.2.2.2.2.2.2.2.2.2.2.2.1 bt189.2.2.2.2.2.2.2.2.2.2.2.2.1 bt189.2.2.2.2.2.2.2.2.2.2.2.2.2.1 bt189.2.2.2.2.2.2.2.2.2.2.2.2.2.2.1 bt189.2.2.2.2.2.2.2.2.2.2.2.2.2.2.2.1 bt189.2.2.2.2.2.2.2.2.2.2.2.2.2.2.2.2.1 bt189.2.2.2.2.2.2.2.2.2.2.2.2.2.2.2.2.2.1 bt189.2.2.2.2.2.2.2.2.2.2.2.2.2.2.2.2.2.2.1 bt189.2.2.2.2.2.2.2.2.2.2.2.2.2.2.2.2.2.2.2.1 bt189.2.2.2.2.2.2.2.2.2.2.2.2.2.2.2.2.2.2.2.2.1 bt189.2.2.2.2.2.2.2.2.2.2.2.2.2.2.2.2.2.2.2.2.2.1 bt189.2.2.2.2.2.2.2.2.2.2.2.2.2.2.2.2.2.2.2.2.2.2.1 bt189.2.2.2.2.2.2.2.2.2.2.2.2.2.2.2.2.2.2.2.2.2.2.2.1 bt189.2.2.2.2.2.2.2.2.2.2.2.2.2.2.2.2.2.2.2.2.2.2.2.2.1 bt189.2.2.2.2.2.2.2.2.2.2.2.2.2.2.2.2.2.2.2.2.2.2.2.2.2.1 bt189.2.2.2.2.2.2.2.2.2.2.2.2.2.2.2.2.2.2.2.2.2.2.2.2.2.2.1 bt189.2.2.2.2.2.2.2.2.2.2.2.2.2.2.2.2.2.2.2.2.2.2.2.2.2.2.2.1 bt189.2.2.2.2.2.2.2.2.2.2.2.2.2.2.2.2.2.2.2.2.2.2.2.2.2.2.2.2 a1).bind fun bt220 => ((laws_toFace.f a0_0 a0_1 a0_2 a0_3 a0_4 a0_5 a0_6 a0_7 a0_8 a0_9 a0_10 a0_11 a0_12 a0_13 a0_14 a0_15 a0_16 a0_17 a0_18 a0_19 a0_20 a0_21 a0_22 a0_23 a0_24 a0_25 a0_26 a0_27 l0_28).bind fun bt222 => ((impl_WordWide.f k bt222.1 bt222.2.1 bt222.2.2.1 bt222.2.2.2.1 bt222.2.2.2.2.1 bt222.2.2.2.2.2.1 bt222.2.2.2.2.2.2.1 bt222.2.2.2.2.2.2.2.1 bt222.2.2.2.2.2.2.2.2.1 bt222.2.2.2.2.2.2.2.2.2.1 bt222.2.2.2.2.2.2.2.2.2.2.1 bt222.2.2.2.2.2.2.2.2.2.2.2.1 bt222.2.2.2.2.2.2.2.2.2.2.2.2.1 bt222.2.2.2.2.2.2.2.2.2.2.2.2.2.1 bt222.2.2.2.2.2.2.2.2.2.2.2.2.2.2.1 bt222.2.2.2.2.2.2.2.2.2.2.2.2.2.2.2.1 bt222.2.2.2.2.2.2.2.2.2.2.2.2.2.2.2.2.1 bt222.2.2.2.2.2.2.2.2.2.2.2.2.2.2.2.2.2.1 bt222.2.2.2.2.2.2.2.2.2.2.2.2.2.2.2.2.2.2.1 bt222.2.2.2.2.2.2.2.2.2.2.2.2.2.2.2.2.2.2.2.1 bt222.2.2.2.2.2.2.2.2.2.2.2.2.2.2.2.2.2.2.2.2.1 bt222.2.2.2.2.2.2.2.2.2.2.2.2.2.2.2.2.2.2.2.2.2.1 bt222.2.2.2.2.2.2.2.2.2.2.2.2.2.2.2.2.2.2.2.2.2.2.1 bt222.2.2.2.2.2.2.2.2.2.2.2.2.2.2.2.2.2.2.2.2.2.2.2.1 bt222.2.2.2.2.2.2.2.2.2.2.2.2.2.2.2.2.2.2.2.2.2.2.2.2.1 bt222.2.2.2.2.2.2.2.2.2.2.2.2.2.2.2.2.2.2.2.2.2.2.2.2.2.1 bt222.2.2.2.2.2.2.2.2.2.2.2.2.2.2.2.2.2.2.2.2.2.2.2.2.2.2.1 bt222.2.2.2.2.2.2.2.2.2.2.2.2.2.2.2.2.2.2.2.2.2.2.2.2.2.2.2.1 bt222.2.2.2.2.2.2.2.2.2.2.2.2.2.2.2.2.2.2.2.2.2.2.2.2.2.2.2.2 a1).bind fun bt254 => (if bt254.1 = bt220.1 then (laws_FnExactWordWide.j0 k (bt254.2 != bt220.2) a0_0 a0_1 a0_2 a0_3 a0_4 a0_5 a0_6 a0_7 a0_8 a0_9 a0_10 a0_11 a0_12 a0_13 a0_14 a0_15 a0_16 a0_17 a0_18 a0_19 a0_20 a0_21 a0_22 a0_23 a0_24 a0_25 a0_26 a0_27 l0_28 bt222.1 bt222.2.1 bt222.2.2.1 bt222.2.2.2.1 bt222.2.2.2.2.1 bt222.2.2.2.2.2.1 bt222.2.2.2.2.2.2.1 bt222.2.2.2.2.2.2.2.1 bt222.2.2.2.2.2.2.2.2.1 bt222.2.2.2.2.2.2.2.2.2.1 bt222.2.2.2.2.2.2.2.2.2.2.1 bt222.2.2.2.2.2.2.2.2.2.2.2.1 bt222.2.2.2.2.2.2.2.2.2.2.2.2.1 bt222.2.2.2.2.2.2.2.2.2.2.2.2.2.1 bt222.2.2.2.2.2.2.2.2.2.2.2.2.2.2.1 bt222.2.2.2.2.2.2.2.2.2.2.2.2.2.2.2.1 bt222.2.2.2.2.2.2.2.2.2.2.2.2.2.2.2.2.1 bt222.2.2.2.2.2.2.2.2.2.2.2.2.2.2.2.2.2.1 bt222.2.2.2.2.2.2.2.2.2.2.2.2.2.2.2.2.2.2.1 bt222.2.2.2.2.2.2.2.2.2.2.2.2.2.2.2.2.2.2.2.1 bt222.2.2.2.2.2.2.2.2.2.2.2.2.2.2.2.2.2.2.2.2.1 bt222.2.2.2.2.2.2.2.2.2.2.2.2.2.2.2.2.2.2.2.2.2.1 bt222.2.2.2.2.2.2.2.2.2.2.2.2.2.2.2.2.2.2.2.2.2.2.1 bt222.2.2.2.2.2.2.2.2.2.2.2.2.2.2.2.2.2.2.2.2.2.2.2.1 bt222.2.2.2.2.2.2.2.2.2.2.2.2.2.2.2.2.2.2.2.2.2.2.2.2.1 bt222.2.2.2.2.2.2.2.2.2.2.2.2.2.2.2.2.2.2.2.2.2.2.2.2.2.1 bt222.2.2.2.2.2.2.2.2.2.2.2.2.2.2.2.2.2.2.2.2.2.2.2.2.2.2.1 bt222.2.2.2.2.2.2.2.2.2.2.2.2.2.2.2.2.2.2.2.2.2.2.2.2.2.2.2.1 bt222.2.2.2.2.2.2.2.2.2.2.2.2.2.2.2.2.2.2.2.2.2.2.2.2.2.2.2.2) else (laws_FnExactWordWide.j0 k true a0_0 a0_1 a0_2 a0_3 a0_4 a0_5 a0_6 a0_7 a0_8 a0_9 a0_10 a0_11 a0_12 a0_13 a0_14 a0_15 a0_16 a0_17 a0_18 a0_19 a0_20 a0_21 a0_22 a0_23 a0_24 a0_25 a0_26 a0_27 l0_28 bt222.1 bt222.2.1 bt222.2.2.1 bt222.2.2.2.1 bt222.2.2.2.2.1 bt222.2.2.2.2.2.1 bt222.2.2.2.2.2.2.1 bt222.2.2.2.2.2.2.2.1 bt222.2.2.2.2.2.2.2.2.1 bt222.2.2.2.2.2.2.2.2.2.1 bt222.2.2.2.2.2.2.2.2.2.2.1 bt222.2.2.2.2.2.2.2.2.2.2.2.1 bt222.2.2.2.2.2.2.2.2.2.2.2.2.1 bt222.2.2.2.2.2.2.2.2.2.2.2.2.2.1 bt222.2.2.2.2.2.2.2.2.2.2.2.2.2.2.1 bt222.2.2.2.2.2.2.2.2.2.2.2.2.2.2.2.1 bt222.2.2.2.2.2.2.2.2.2.2.2.2.2.2.2.2.1 bt222.2.2.2.2.2.2.2.2.2.2.2.2.2.2.2.2.2.1 bt222.2.2.2.2.2.2.2.2.2.2.2.2.2.2.2.2.2.2.1 bt222.2.2.2.2.2.2.2.2.2.2.2.2.2.2.2.2.2.2.2.1 bt222.2.2.2.2.2.2.2.2.2.2.2.2.2.2.2.2.2.2.2.2.1 bt222.2.2.2.2.2.2.2.2.2.2.2.2.2.2.2.2.2.2.2.2.2.1 bt222.2.2.2.2.2.2.2.2.2.2.2.2.2.2.2.2.2.2.2.2.2.2.1 bt222.2.2.2.2.2.2.2.2.2.2.2.2.2.2.2.2.2.2.2.2.2.2.2.1 bt222.2.2.2.2.2.2.2.2.2.2.2.2.2.2.2.2.2.2.2.2.2.2.2.2.1 bt222.2.2.2.2.2.2.2.2.2.2.2.2.2.2.2.2.2.2.2.2.2.2.2.2.2.1 bt222.2.2.2.2.2.2.2.2.2.2.2.2.2.2.2.2.2.2.2.2.2.2.2.2.2.2.1 bt222.2.2.2.2.2.2.2.2.2.2.2.2.2.2.2.2.2.2.2.2.2.2.2.2.2.2.2.1 bt222.2.2.2.2.2.2.2.2.2.2.2.2.2.2.2.2.2.2.2.2.2.2.2.2.2.2.2.2))))))) = some r := H
    have A5 := Aside0.mk A50
    clear A50
    by_cases c6 : t188 < 0
    · rw [if_pos c6] at H
      have c6b0 : decide (t188 < 0) = true := decide_eq_true c6
      clear c6
      obtain rfl := Option.some.inj H
      go_enter Tryd.func3, Tryd.ntmps3
      go_wp2_with (first | ((with_reducible refine gate_dst (N := 2) rfl ?_); refine box_event ?hg (N := 2) ?hd (cs := #[.int .i8 a0_0, .int .i8 a0_1, .int .i8 a0_2, .int .i8 a0_3, .int .i8 a0_4, .int .i8 a0_5, .int .i8 a0_6, .int .i8 a0_7, .int .i8 a0_8, .int .i8 a0_9, .int .i8 a0_10, .int .i8 a0_11, .int .i8 a0_12, .int .i8 a0_13, .int .i8 a0_14, .int .i8 a0_15, .int .i8 a0_16, .int .i8 a0_17, .int .i8 a0_18, .int .i8 a0_19, .int .i8 a0_20, .int .i8 a0_21, .int .i8 a0_22, .int .i8 a0_23, .int .i8 a0_24, .int .i8 a0_25, .int .i8 a0_26, .int .i8 a0_27, .slice A0_28 l0_28.length c0_28]) (t := 26) ?hr ?_; (case hd => rfl); (case hg => rfl); (case hr => first | (go_simp; done) | (go_simp; rfl)); intro gb187 hg w7 hbox hb; have n0_ := Aside0.mk (below_step (by repeat (first | (with_reducible first | exact HB.out | apply below_alloc | apply pw_below_drewN | apply below_drew1) | exact HB.out)) hb); have n1_ := Aside0.mk (hbox); have n2_ := Aside0.mk ((by rw [hg]; exact (below_size (by repeat (first | (with_reducible first | exact HB.out | apply below_alloc | apply pw_below_drewN | apply below_drew1) | exact HB.out))) : w.heap.size ≤ gb187)); have n3_ := Aside0.mk ((by rw [hg]; exact (below_size (by repeat (first | (with_reducible first | exact HB.out | apply below_alloc | apply pw_below_drewN | apply below_drew1) | exact HB.out))) : w.heap.size ≤ gb187)); clear HB; have HB := n0_; have BK187 := n1_; have GW187 := n2_; have GE187 := n3_; clear n0_ n1_ n2_ n3_; clear hb hbox hg) | ((with_reducible refine gate_dst (N := 14) rfl ?_); refine wpList_load_mid rfl 26 (.tmp 2) rfl gb187 0 rfl [.int .i8 a0_0, .int .i8 a0_1, .int .i8 a0_2, .int .i8 a0_3, .int .i8 a0_4, .int .i8 a0_5, .int .i8 a0_6, .int .i8 a0_7, .int .i8 a0_8, .int .i8 a0_9, .int .i8 a0_10, .int .i8 a0_11, .int .i8 a0_12, .int .i8 a0_13, .int .i8 a0_14, .int .i8 a0_15, .int .i8 a0_16, .int .i8 a0_17, .int .i8 a0_18, .int .i8 a0_19, .int .i8 a0_20, .int .i8 a0_21, .int .i8 a0_22, .int .i8 a0_23, .int .i8 a0_24, .int .i8 a0_25, .int .i8 a0_26, .int .i8 a0_27, .slice A0_28 l0_28.length c0_28] _ (range_partx_ [] [.int .i8 a0_0, .int .i8 a0_1, .int .i8 a0_2, .int .i8 a0_3, .int .i8 a0_4, .int .i8 a0_5, .int .i8 a0_6, .int .i8 a0_7, .int .i8 a0_8, .int .i8 a0_9, .int .i8 a0_10, .int .i8 a0_11, .int .i8 a0_12, .int .i8 a0_13, .int .i8 a0_14, .int .i8 a0_15, .int .i8 a0_16, .int .i8 a0_17, .int .i8 a0_18, .int .i8 a0_19, .int .i8 a0_20, .int .i8 a0_21, .int .i8 a0_22, .int .i8 a0_23, .int .i8 a0_24, .int .i8 a0_25, .int .i8 a0_26, .int .i8 a0_27, .slice A0_28 l0_28.length c0_28] [] 0 rfl (by (with_reducible repeat (first | refine blk_drewN ?_ _ | refine blk_drew ?_ | refine blk_alloc ?_ _)); exact BK187.out)) Tryd.underlying26 rfl (by exact (show (Tryd.prog.info? 26).map (·.size) = some 29 by kernel_rfl)) ?_) | ((with_reducible refine gate_callee (f := 18) rfl ?_); refine goesL_ (some 16) rfl rfl Tryd.func18 (by kernel_rfl) rfl #[.agg #[.int .i8 a0_0, .int .i8 a0_1, .int .i8 a0_2, .int .i8 a0_3, .int .i8 a0_4, .int .i8 a0_5, .int .i8 a0_6, .int .i8 a0_7, .int .i8 a0_8, .int .i8 a0_9, .int .i8 a0_10, .int .i8 a0_11, .int .i8 a0_12, .int .i8 a0_13, .int .i8 a0_14, .int .i8 a0_15, .int .i8 a0_16, .int .i8 a0_17, .int .i8 a0_18, .int .i8 a0_19, .int .i8 a0_20, .int .i8 a0_21, .int .i8 a0_22, .int .i8 a0_23, .int .i8 a0_24, .int .i8 a0_25, .int .i8 a0_26, .int .i8 a0_27, .slice A0_28 l0_28.length c0_28], .int .i64 1048576] rfl (by (try simp only [List.map_toArray, List.map_cons, List.map_nil]); first | done | rfl | (simp only [List.length_drop, List.length_take]; rfl)) ?_; (with_reducible refine (laws_szFace.calls a0_0 a0_1 a0_2 a0_3 a0_4 a0_5 a0_6 a0_7 a0_8 a0_9 a0_10 a0_11 a0_12 a0_13 a0_14 a0_15 a0_16 a0_17 a0_18 a0_19 a0_20 a0_21 a0_22 a0_23 a0_24 a0_25 a0_26 a0_27 _ _ l0_28 1048576 t188 _ ?side1 ?side2 A5.out).mono ?_); (case side1 => repeat (first | exact (Kd.C_below HR0_28.out HB.out) | (with_reducible refine Kd.C_alloc ?_ _) | (with_reducible refine Kd.C_drewN ?_ _) | (with_reducible refine Kd.C_drew ?_))); (case side2 => exact HC0_28.out); rintro e w8 ⟨rfl, hb⟩; refine ⟨_, rfl, ?_⟩; have n0_ := Aside0.mk (blk_below (g := gb187) (o := .cells #[.int .i8 a0_0, .int .i8 a0_1, .int .i8 a0_2, .int .i8 a0_3, .int .i8 a0_4, .int .i8 a0_5, .int .i8 a0_6, .int .i8 a0_7, .int .i8 a0_8, .int .i8 a0_9, .int .i8 a0_10, .int .i8 a0_11, .int .i8 a0_12, .int .i8 a0_13, .int .i8 a0_14, .int .i8 a0_15, .int .i8 a0_16, .int .i8 a0_17, .int .i8 a0_18, .int .i8 a0_19, .int .i8 a0_20, .int .i8 a0_21, .int .i8 a0_22, .int .i8 a0_23, .int .i8 a0_24, .int .i8 a0_25, .int .i8 a0_26, .int .i8 a0_27, .slice A0_28 l0_28.length c0_28] 26 (0, 0)) (by (with_reducible repeat (first | refine blk_drewN ?_ _ | refine blk_drew ?_ | refine blk_alloc ?_ _)); exact BK187.out) hb); have n1_ := Aside0.mk (below_step (by repeat (first | (with_reducible first | exact HB.out | apply below_alloc | apply pw_below_drewN | apply below_drew1 | refine below_set ?_ GE187.out) | exact HB.out)) hb); clear BK187; clear HB; have BK187 := n0_; have HB := n1_; clear n0_ n1_; (try clear hb); (try clear hb2); (try clear hk); (try clear hi)))
      go_ret
      exact ⟨by first | rfl | (simp [errW_none, errW_some] <;> rfl) | (simp [*, errW_none, errW_some] <;> rfl), by repeat (first | (with_reducible first | exact HB.out | apply below_alloc | apply pw_below_drewN | apply below_drew1 | refine below_set ?_ GE187.out) | exact HB.out)⟩
    · rw [if_neg c6] at H
      have c6b0 : decide (t188 < 0) = false := decide_eq_false c6
      clear c6
      replace H := Option.bind_eq_some_iff.mp H
      obtain ⟨⟨t189, t190, t191, t192, t193, t194, t195, t196, t197, t198, t199, t200, t201, t202, t203, t204, t205, t206, t207, t208, t209, t210, t211, t212, t213, t214, t215, t216, t217⟩, A90, H⟩ := H
      replace H : ((spec_WordWide.f k t189 t190 t191 t192 t193 t194 t195 t196 t197 t198 t199 t200 t201 t202 t203 t204 t205 t206 t207 t208 t209 t210 t211 t212 t213 t214 t215 t216 t217 a1).bind fun bt220 => ((laws_toFace.f a0_0 a0_1 a0_2 a0_3 a0_4 a0_5 a0_6 a0_7 a0_8 a0_9 a0_10 a0_11 a0_12 a0_13 a0_14 a0_15 a0_16 a0_17 a0_18 a0_19 a0_20 a0_21 a0_22 a0_23 a0_24 a0_25 a0_26 a0_27 l0_28).bind fun bt222 => ((impl_WordWide.f k bt222.1 bt222.2.1 bt222.2.2.1 bt222.2.2.2.1 bt222.2.2.2.2.1 bt222.2.2.2.2.2.1 bt222.2.2.2.2.2.2.1 bt222.2.2.2.2.2.2.2.1 bt222.2.2.2.2.2.2.2.2.1 bt222.2.2.2.2.2.2.2.2.2.1 bt222.2.2.2.2.2.2.2.2.2.2.1 bt222.2.2.2.2.2.2.2.2.2.2.2.1 bt222.2.2.2.2.2.2.2.2.2.2.2.2.1 bt222.2.2.2.2.2.2.2.2.2.2.2.2.2.1 bt222.2.2.2.2.2.2.2.2.2.2.2.2.2.2.1 bt222.2.2.2.2.2.2.2.2.2.2.2.2.2.2.2.1 bt222.2.2.2.2.2.2.2.2.2.2.2.2.2.2.2.2.1 bt222.2.2.2.2.2.2.2.2.2.2.2.2.2.2.2.2.2.1 bt222.2.2.2.2.2.2.2.2.2.2.2.2.2.2.2.2.2.2.1 bt222.2.2.2.2.2.2.2.2.2.2.2.2.2.2.2.2.2.2.2.1 bt222.2.2.2.2.2.2.2.2.2.2.2.2.2.2.2.2.2.2.2.2.1 bt222.2.2.2.2.2.2.2.2.2.2.2.2.2.2.2.2.2.2.2.2.2.1 bt222.2.2.2.2.2.2.2.2.2.2.2.2.2.2.2.2.2.2.2.2.2.2.1 bt222.2.2.2.2.2.2.2.2.2.2.2.2.2.2.2.2.2.2.2.2.2.2.2.1 bt222.2.2.2.2.2.2.2.2.2.2.2.2.2.2.2.2.2.2.2.2.2.2.2.2.1 bt222.2.2.2.2.2.2.2.2.2.2.2.2.2.2.2.2.2.2.2.2.2.2.2.2.2.1 bt222.2.2.2.2.2.2.2.2.2.2.2.2.2.2.2.2.2.2.2.2.2.2.2.2.2.2.1 bt222.2.2.2.2.2.2.2.2.2.2.2.2.2.2.2.2.2.2.2.2.2.2.2.2.2.2.2.1 bt222.2.2.2.2.2.2.2.2.2.2.2.2.2.2.2.2.2.2.2.2.2.2.2.2.2.2.2.2 a1).bind fun bt254 => (if bt254.1 = bt220.1 then (laws_FnExactWordWide.j0 k (bt254.2 != bt220.2) a0_0 a0_1 a0_2 a0_3 a0_4 a0_5 a0_6 a0_7 a0_8 a0_9 a0_10 a0_11 a0_12 a0_13 a0_14 a0_15 a0_16 a0_17 a0_18 a0_19 a0_20 a0_21 a0_22 a0_23 a0_24 a0_25 a0_26 a0_27 l0_28 bt222.1 bt222.2.1 bt222.2.2.1 bt222.2.2.2.1 bt222.2.2.2.2.1 bt222.2.2.2.2.2.1 bt222.2.2.2.2.2.2.1 bt222.2.2.2.2.2.2.2.1 bt222.2.2.2.2.2.2.2.2.1 bt222.2.2.2.2.2.2.2.2.2.1 bt222.2.2.2.2.2.2.2.2.2.2.1 bt222.2.2.2.2.2.2.2.2.2.2.2.1 bt222.2.2.2.2.2.2.2.2.2.2.2.2.1 bt222.2.2.2.2.2.2.2.2.2.2.2.2.2.1 bt222.2.2.2.2.2.2.2.2.2.2.2.2.2.2.1 bt222.2.2.2.2.2.2.2.2.2.2.2.2.2.2.2.1 bt222.2.2.2.2.2.2.2.2.2.2.2.2.2.2.2.2.1 bt222.2.2.2.2.2.2.2.2.2.2.2.2.2.2.2.2.2.1 bt222.2.2.2.2.2.2.2.2.2.2.2.2.2.2.2.2.2.2.1 bt222.2.2.2.2.2.2.2.2.2.2.2.2.2.2.2.2.2.2.2.1 bt222.2.2.2.2.2.2.2.2.2.2.2.2.2.2.2.2.2.2.2.2.1 bt222.2.2.2.2.2.2.2.2.2.2.2.2.2.2.2.2.2.2.2.2.2.1 bt222.2.2.2.2.2.2.2.2.2.2.2.2.2.2.2.2.2.2.2.2.2.2.1 bt222.2.2.2.2.2.2.2.2.2.2.2.2.2.2.2.2.2.2.2.2.2.2.2.1 bt222.2.2.2.2.2.2.2.2.2.2.2.2.2.2.2.2.2.2.2.2.2.2.2.2.1 bt222.2.2.2.2.2.2.2.2.2.2.2.2.2.2.2.2.2.2.2.2.2.2.2.2.2.1 bt222.2.2.2.2.2.2.2.2.2.2.2.2.2.2.2.2.2.2.2.2.2.2.2.2.2.2.1 bt222.2.2.2.2.2.2.2.2.2.2.2.2.2.2.2.2.2.2.2.2.2.2.2.2.2.2.2.1 bt222.2.2.2.2.2.2.2.2.2.2.2.2.2.2.2.2.2.2.2.2.2.2.2.2.2.2.2.2) else (laws_FnExactWordWide.j0 k true a0_0 a0_1 a0_2 a0_3 a0_4 a0_5 a0_6 a0_7 a0_8 a0_9 a0_10 a0_11 a0_12 a0_13 a0_14 a0_15 a0_16 a0_17 a0_18 a0_19 a0_20 a0_21 a0_22 a0_23 a0_24 a0_25 a0_26 a0_27 l0_28 bt222.1 bt222.2.1 bt222.2.2.1 bt222.2.2.2.1 bt222.2.2.2.2.1 bt222.2.2.2.2.2.1 bt222.2.2.2.2.2.2.1 bt222.2.2.2.2.2.2.2.1 bt222.2.2.2.2.2.2.2.2.1 bt222.2.2.2.2.2.2.2.2.2.1 bt222.2.2.2.2.2.2.2.2.2.2.1 bt222.2.2.2.2.2.2.2.2.2.2.2.1 bt222.2.2.2.2.2.2.2.2.2.2.2.2.1 bt222.2.2.2.2.2.2.2.2.2.2.2.2.2.1 bt222.2.2.2.2.2.2.2.2.2.2.2.2.2.2.1 bt222.2.2.2.2.2.2.2.2.2.2.2.2.2.2.2.1 bt222.2.2.2.2.2.2.2.2.2.2.2.2.2.2.2.2.1 bt222.2.2.2.2.2.2.2.2.2.2.2.2.2.2.2.2.2.1 bt222.2.2.2.2.2.2.2.2.2.2.2.2.2.2.2.2.2.2.1 bt222.2.2.2.2.2.2.2.2.2.2.2.2.2.2.2.2.2.2.2.1 bt222.2.2.2.2.2.2.2.2.2.2.2.2.2.2.2.2.2.2.2.2.1 bt222.2.2.2.2.2.2.2.2.2.2.2.2.2.2.2.2.2.2.2.2.2.1 bt222.2.2.2.2.2.2.2.2.2.2.2.2.2.2.2.2.2.2.2.2.2.2.1 bt222.2.2.2.2.2.2.2.2.2.2.2.2.2.2.2.2.2.2.2.2.2.2.2.1 bt222.2.2.2.2.2.2.2.2.2.2.2.2.2.2.2.2.2.2.2.2.2.2.2.2.1 bt222.2.2.2.2.2.2.2.2.2.2.2.2.2.2.2.2.2.2.2.2.2.2.2.2.2.1 bt222.2.2.2.2.2.2.2.2.2.2.2.2.2.2.2.2.2.2.2.2.2.2.2.2.2.2.1 bt222.2.2.2.2.2.2.2.2.2.2.2.2.2.2.2.2.2.2.2.2.2.2.2.2.2.2.2.1 bt222.2.2.2.2.2.2.2.2.2.2.2.2.2.2.2.2.2.2.2.2.2.2.2.2.2.2.2.2))))) = some r := H
      have A9 := Aside0.mk A90
      clear A90
      replace H := Option.bind_eq_some_iff.mp H
      obtain ⟨⟨t220, t221⟩, A100, H⟩ := H
      replace H : ((laws_toFace.f a0_0 a0_1 a0_2 a0_3 a0_4 a0_5 a0_6 a0_7 a0_8 a0_9 a0_10 a0_11 a0_12 a0_13 a0_14 a0_15 a0_16 a0_17 a0_18 a0_19 a0_20 a0_21 a0_22 a0_23 a0_24 a0_25 a0_26 a0_27 l0_28).bind fun bt222 => ((impl_WordWide.f k bt222.1 bt222.2.1 bt222.2.2.1 bt222.2.2.2.1 bt222.2.2.2.2.1 bt222.2.2.2.2.2.1 bt222.2.2.2.2.2.2.1 bt222.2.2.2.2.2.2.2.1 bt222.2.2.2.2.2.2.2.2.1 bt222.2.2.2.2.2.2.2.2.2.1 bt222.2.2.2.2.2.2.2.2.2.2.1 bt222.2.2.2.2.2.2.2.2.2.2.2.1 bt222.2.2.2.2.2.2.2.2.2.2.2.2.1 bt222.2.2.2.2.2.2.2.2.2.2.2.2.2.1 bt222.2.2.2.2.2.2.2.2.2.2.2.2.2.2.1 bt222.2.2.2.2.2.2.2.2.2.2.2.2.2.2.2.1 bt222.2.2.2.2.2.2.2.2.2.2.2.2.2.2.2.2.1 bt222.2.2.2.2.2.2.2.2.2.2.2.2.2.2.2.2.2.1 bt222.2.2.2.2.2.2.2.2.2.2.2.2.2.2.2.2.2.2.1 bt222.2.2.2.2.2.2.2.2.2.2.2.2.2.2.2.2.2.2.2.1 bt222.2.2.2.2.2.2.2.2.2.2.2.2.2.2.2.2.2.2.2.2.1 bt222.2.2.2.2.2.2.2.2.2.2.2.2.2.2.2.2.2.2.2.2.2.1 bt222.2.2.2.2.2.2.2.2.2.2.2.2.2.2.2.2.2.2.2.2.2.2.1 bt222.2.2.2.2.2.2.2.2.2.2.2.2.2.2.2.2.2.2.2.2.2.2.2.1 bt222.2.2.2.2.2.2.2.2.2.2.2.2.2.2.2.2.2.2.2.2.2.2.2.2.1 bt222.2.2.2.2.2.2.2.2.2.2.2.2.2.2.2.2.2.2.2.2.2.2.2.2.2.1 bt222.2.2.2.2.2.2.2.2.2.2.2.2.2.2.2.2.2.2.2.2.2.2.2.2.2.2.1 bt222.2.2.2.2.2.2.2.2.2.2.2.2.2.2.2.2.2.2.2.2.2.2.2.2.2.2.2.1 bt222.2.2.2.2.2.2.2.2.2.2.2.2.2.2.2.2.2.2.2.2.2.2.2.2.2.2.2.2 a1).bind fun bt254 => (if bt254.1 = t220 then (laws_FnExactWordWide.j0 k (bt254.2 != t221) a0_0 a0_1 a0_2 a0_3 a0_4 a0_5 a0_6 a0_7 a0_8 a0_9 a0_10 a0_11 a0_12 a0_13 a0_14 a0_15 a0_16 a0_17 a0_18 a0_19 a0_20 a0_21 a0_22 a0_23 a0_24 a0_25 a0_26 a0_27 l0_28 bt222.1 bt222.2.1 bt222.2.2.1 bt222.2.2.2.1 bt222.2.2.2.2.1 bt222.2.2.2.2.2.1 bt222.2.2.2.2.2.2.1 bt222.2.2.2.2.2.2.2.1 bt222.2.2.2.2.2.2.2.2.1 bt222.2.2.2.2.2.2.2.2.2.1 bt222.2.2.2.2.2.2.2.2.2.2.1 bt222.2.2.2.2.2.2.2.2.2.2.2.1 bt222.2.2.2.2.2.2.2.2.2.2.2.2.1 bt222.2.2.2.2.2.2.2.2.2.2.2.2.2.1 bt222.2.2.2.2.2.2.2.2.2.2.2.2.2.2.1 bt222.2.2.2.2.2.2.2.2.2.2.2.2.2.2.2.1 bt222.2.2.2.2.2.2.2.2.2.2.2.2.2.2.2.2.1 bt222.2.2.2.2.2.2.2.2.2.2.2.2.2.2.2.2.2.1 bt222.2.2.2.2.2.2.2.2.2.2.2.2.2.2.2.2.2.2.1 bt222.2.2.2.2.2.2.2.2.2.2.2.2.2.2.2.2.2.2.2.1 bt222.2.2.2.2.2.2.2.2.2.2.2.2.2.2.2.2.2.2.2.2.1 bt222.2.2.2.2.2.2.2.2.2.2.2.2.2.2.2.2.2.2.2.2.2.1 bt222.2.2.2.2.2.2.2.2.2.2.2.2.2.2.2.2.2.2.2.2.2.2.1 bt222.2.2.2.2.2.2.2.2.2.2.2.2.2.2.2.2.2.2.2.2.2.2.2.1 bt222.2.2.2.2.2.2.2.2.2.2.2.2.2.2.2.2.2.2.2.2.2.2.2.2.1 bt222.2.2.2.2.2.2.2.2.2.2.2.2.2.2.2.2.2.2.2.2.2.2.2.2.2.1 bt222.2.2.2.2.2.2.2.2.2.2.2.2.2.2.2.2.2.2.2.2.2.2.2.2.2.2.1 bt222.2.2.2.2.2.2.2.2.2.2.2.2.2.2.2.2.2.2.2.2.2.2.2.2.2.2.2.1 bt222.2.2.2.2.2.2.2.2.2.2.2.2.2.2.2.2.2.2.2.2.2.2.2.2.2.2.2.2) else (laws_FnExactWordWide.j0 k true a0_0 a0_1 a0_2 a0_3 a0_4 a0_5 a0_6 a0_7 a0_8 a0_9 a0_10 a0_11 a0_12 a0_13 a0_14 a0_15 a0_16 a0_17 a0_18 a0_19 a0_20 a0_21 a0_22 a0_23 a0_24 a0_25 a0_26 a0_27 l0_28 bt222.1 bt222.2.1 bt222.2.2.1 bt222.2.2.2.1 bt222.2.2.2.2.1 bt222.2.2.2.2.2.1 bt222.2.2.2.2.2.2.1 bt222.2.2.2.2.2.2.2.1 bt222.2.2.2.2.2.2.2.2.1 bt222.2.2.2.2.2.2.2.2.2.1 bt222.2.2.2.2.2.2.2.2.2.2.1 bt222.2.2.2.2.2.2.2.2.2.2.2.1 bt222.2.2.2.2.2.2.2.2.2.2.2.2.1 bt222.2.2.2.2.2.2.2.2.2.2.2.2.2.1 bt222.2.2.2.2.2.2.2.2.2.2.2.2.2.2.1 bt222.2.2.2.2.2.2.2.2.2.2.2.2.2.2.2.1 bt222.2.2.2.2.2.2.2.2.2.2.2.2.2.2.2.2.1 bt222.2.2.2.2.2.2.2.2.2.2.2.2.2.2.2.2.2.1 bt222.2.2.2.2.2.2.2.2.2.2.2.2.2.2.2.2.2.2.1 bt222.2.2.2.2.2.2.2.2.2.2.2.2.2.2.2.2.2.2.2.1 bt222.2.2.2.2.2.2.2.2.2.2.2.2.2.2.2.2.2.2.2.2.1 bt222.2.2.2.2.2.2.2.2.2.2.2.2.2.2.2.2.2.2.2.2.2.1 bt222.2.2.2.2.2.2.2.2.2.2.2.2.2.2.2.2.2.2.2.2.2.2.1 bt222.2.2.2.2.2.2.2.2.2.2.2.2.2.2.2.2.2.2.2.2.2.2.2.1 bt222.2.2.2.2.2.2.2.2.2.2.2.2.2.2.2.2.2.2.2.2.2.2.2.2.1 bt222.2.2.2.2.2.2.2.2.2.2.2.2.2.2.2.2.2.2.2.2.2.2.2.2.2.1 bt222.2.2.2.2.2.2.2.2.2.2.2.2.2.2.2.2.2.2.2.2.2.2.2.2.2.2.1 bt222.2.2.2.2.2.2.2.2.2.2.2.2.2.2.2.2.2.2.2.2.2.2.2.2.2.2.2.1 bt222.2.2.2.2.2.2.2.2.2.2.2.2.2.2.2.2.2.2.2.2.2.2.2.2.2.2.2.2)))) = some r := H
      have A10 := Aside0.mk A100
      clear A100
      replace H := Option.bind_eq_some_iff.mp H
      obtain ⟨⟨t222, t223, t224, t225, t226, t227, t228, t229, t230, t231, t232, t233, t234, t235, t236, t237, t238, t239, t240, t241, t242, t243, t244, t245, t246, t247, t248, t249, t250⟩, A110, H⟩ := H
      replace H : ((impl_WordWide.f k t222 t223 t224 t225 t226 t227 t228 t229 t230 t231 t232 t233 t234 t235 t236 t237 t238 t239 t240 t241 t242 t243 t244 t245 t246 t247 t248 t249 t250 a1).bind fun bt254 => (if bt254.1 = t220 then (laws_FnExactWordWide.j0 k (bt254.2 != t221) a0_0 a0_1 a0_2 a0_3 a0_4 a0_5 a0_6 a0_7 a0_8 a0_9 a0_10 a0_11 a0_12 a0_13 a0_14 a0_15 a0_16 a0_17 a0_18 a0_19 a0_20 a0_21 a0_22 a0_23 a0_24 a0_25 a0_26 a0_27 l0_28 t222 t223 t224 t225 t226 t227 t228 t229 t230 t231 t232 t233 t234 t235 t236 t237 t238 t239 t240 t241 t242 t243 t244 t245 t246 t247 t248 t249 t250) else (laws_FnExactWordWide.j0 k true a0_0 a0_1 a0_2 a0_3 a0_4 a0_5 a0_6 a0_7 a0_8 a0_9 a0_10 a0_11 a0_12 a0_13 a0_14 a0_15 a0_16 a0_17 a0_18 a0_19 a0_20 a0_21 a0_22 a0_23 a0_24 a0_25 a0_26 a0_27 l0_28 t222 t223 t224 t225 t226 t227 t228 t229 t230 t231 t232 t233 t234 t235 t236 t237 t238 t239 t240 t241 t242 t243 t244 t245 t246 t247 t248 t249 t250))) = some r := H
      have A11 := Aside0.mk A110
      clear A110
      replace H := Option.bind_eq_some_iff.mp H
      obtain ⟨⟨t254, t255⟩, A120, H⟩ := H
      replace H : (if t254 = t220 then (laws_FnExactWordWide.j0 k (t255 != t221) a0_0 a0_1 a0_2 a0_3 a0_4 a0_5 a0_6 a0_7 a0_8 a0_9 a0_10 a0_11 a0_12 a0_13 a0_14 a0_15 a0_16 a0_17 a0_18 a0_19 a0_20 a0_21 a0_22 a0_23 a0_24 a0_25 a0_26 a0_27 l0_28 t222 t223 t224 t225 t226 t227 t228 t229 t230 t231 t232 t233 t234 t235 t236 t237 t238 t239 t240 t241 t242 t243 t244 t245 t246 t247 t248 t249 t250) else (laws_FnExactWordWide.j0 k true a0_0 a0_1 a0_2 a0_3 a0_4 a0_5 a0_6 a0_7 a0_8 a0_9 a0_10 a0_11 a0_12 a0_13 a0_14 a0_15 a0_16 a0_17 a0_18 a0_19 a0_20 a0_21 a0_22 a0_23 a0_24 a0_25 a0_26 a0_27 l0_28 t222 t223 t224 t225 t226 t227 t228 t229 t230 t231 t232 t233 t234 t235 t236 t237 t238 t239 t240 t241 t242 t243 t244 t245 t246 t247 t248 t249 t250)) = some r := H
      have A12 := Aside0.mk A120
      clear A120
      have HC13 := Aside0.mk H
      clear H
      go_enter Tryd.func3, Tryd.ntmps3
      go_upto_region 10 with (first | ((with_reducible refine gate_dst (N := 2) rfl ?_); refine box_event ?hg (N := 2) ?hd (cs := #[.int .i8 a0_0, .int .i8 a0_1, .int .i8 a0_2, .int .i8 a0_3, .int .i8 a0_4, .int .i8 a0_5, .int .i8 a0_6, .int .i8 a0_7, .int .i8 a0_8, .int .i8 a0_9, .int .i8 a0_10, .int .i8 a0_11, .int .i8 a0_12, .int .i8 a0_13, .int .i8 a0_14, .int .i8 a0_15, .int .i8 a0_16, .int .i8 a0_17, .int .i8 a0_18, .int .i8 a0_19, .int .i8 a0_20, .int .i8 a0_21, .int .i8 a0_22, .int .i8 a0_23, .int .i8 a0_24, .int .i8 a0_25, .int .i8 a0_26, .int .i8 a0_27, .slice A0_28 l0_28.length c0_28]) (t := 26) ?hr ?_; (case hd => rfl); (case hg => rfl); (case hr => first | (go_simp; done) | (go_simp; rfl)); intro gb187 hg w14 hbox hb; have n0_ := Aside0.mk (below_step (by repeat (first | (with_reducible first | exact HB.out | apply below_alloc | apply pw_below_drewN | apply below_drew1) | exact HB.out)) hb); have n1_ := Aside0.mk (hbox); have n2_ := Aside0.mk ((by rw [hg]; exact (below_size (by repeat (first | (with_reducible first | exact HB.out | apply below_alloc | apply pw_below_drewN | apply below_drew1) | exact HB.out))) : w.heap.size ≤ gb187)); have n3_ := Aside0.mk ((by rw [hg]; exact (below_size (by repeat (first | (with_reducible first | exact HB.out | apply below_alloc | apply pw_below_drewN | apply below_drew1) | exact HB.out))) : w.heap.size ≤ gb187)); clear HB; have HB := n0_; have BK187 := n1_; have GW187 := n2_; have GE187 := n3_; clear n0_ n1_ n2_ n3_; clear hb hbox hg) | ((with_reducible refine gate_dst (N := 14) rfl ?_); refine wpList_load_mid rfl 26 (.tmp 2) rfl gb187 0 rfl [.int .i8 a0_0, .int .i8 a0_1, .int .i8 a0_2, .int .i8 a0_3, .int .i8 a0_4, .int .i8 a0_5, .int .i8 a0_6, .int .i8 a0_7, .int .i8 a0_8, .int .i8 a0_9, .int .i8 a0_10, .int .i8 a0_11, .int .i8 a0_12, .int .i8 a0_13, .int .i8 a0_14, .int .i8 a0_15, .int .i8 a0_16, .int .i8 a0_17, .int .i8 a0_18, .int .i8 a0_19, .int .i8 a0_20, .int .i8 a0_21, .int .i8 a0_22, .int .i8 a0_23, .int .i8 a0_24, .int .i8 a0_25, .int .i8 a0_26, .int .i8 a0_27, .slice A0_28 l0_28.length c0_28] _ (range_partx_ [] [.int .i8 a0_0, .int .i8 a0_1, .int .i8 a0_2, .int .i8 a0_3, .int .i8 a0_4, .int .i8 a0_5, .int .i8 a0_6, .int .i8 a0_7, .int .i8 a0_8, .int .i8 a0_9, .int .i8 a0_10, .int .i8 a0_11, .int .i8 a0_12, .int .i8 a0_13, .int .i8 a0_14, .int .i8 a0_15, .int .i8 a0_16, .int .i8 a0_17, .int .i8 a0_18, .int .i8 a0_19, .int .i8 a0_20, .int .i8 a0_21, .int .i8 a0_22, .int .i8 a0_23, .int .i8 a0_24, .int .i8 a0_25, .int .i8 a0_26, .int .i8 a0_27, .slice A0_28 l0_28.length c0_28] [] 0 rfl (by (with_reducible repeat (first | refine blk_drewN ?_ _ | refine blk_drew ?_ | refine blk_alloc ?_ _)); exact BK187.out)) Tryd.underlying26 rfl (by exact (show (Tryd.prog.info? 26).map (·.size) = some 29 by kernel_rfl)) ?_) | ((with_reducible refine gate_callee (f := 18) rfl ?_); refine goesL_ (some 16) rfl rfl Tryd.func18 (by kernel_rfl) rfl #[.agg #[.int .i8 a0_0, .int .i8 a0_1, .int .i8 a0_2, .int .i8 a0_3, .int .i8 a0_4, .int .i8 a0_5, .int .i8 a0_6, .int .i8 a0_7, .int .i8 a0_8, .int .i8 a0_9, .int .i8 a0_10, .int .i8 a0_11, .int .i8 a0_12, .int .i8 a0_13, .int .i8 a0_14, .int .i8 a0_15, .int .i8 a0_16, .int .i8 a0_17, .int .i8 a0_18, .int .i8 a0_19, .int .i8 a0_20, .int .i8 a0_21, .int .i8 a0_22, .int .i8 a0_23, .int .i8 a0_24, .int .i8 a0_25, .int .i8 a0_26, .int .i8 a0_27, .slice A0_28 l0_28.length c0_28], .int .i64 1048576] rfl (by (try simp only [List.map_toArray, List.map_cons, List.map_nil]); first | done | rfl | (simp only [List.length_drop, List.length_take]; rfl)) ?_; (with_reducible refine (laws_szFace.calls a0_0 a0_1 a0_2 a0_3 a0_4 a0_5 a0_6 a0_7 a0_8 a0_9 a0_10 a0_11 a0_12 a0_13 a0_14 a0_15 a0_16 a0_17 a0_18 a0_19 a0_20 a0_21 a0_22 a0_23 a0_24 a0_25 a0_26 a0_27 _ _ l0_28 1048576 t188 _ ?side1 ?side2 A5.out).mono ?_); (case side1 => repeat (first | exact (Kd.C_below HR0_28.out HB.out) | (with_reducible refine Kd.C_alloc ?_ _) | (with_reducible refine Kd.C_drewN ?_ _) | (with_reducible refine Kd.C_drew ?_))); (case side2 => exact HC0_28.out); rintro e w15 ⟨rfl, hb⟩; refine ⟨_, rfl, ?_⟩; have n0_ := Aside0.mk (blk_below (g := gb187) (o := .cells #[.int .i8 a0_0, .int .i8 a0_1, .int .i8 a0_2, .int .i8 a0_3, .int .i8 a0_4, .int .i8 a0_5, .int .i8 a0_6, .int .i8 a0_7, .int .i8 a0_8, .int .i8 a0_9, .int .i8 a0_10, .int .i8 a0_11, .int .i8 a0_12, .int .i8 a0_13, .int .i8 a0_14, .int .i8 a0_15, .int .i8 a0_16, .int .i8 a0_17, .int .i8 a0_18, .int .i8 a0_19, .int .i8 a0_20, .int .i8 a0_21, .int .i8 a0_22, .int .i8 a0_23, .int .i8 a0_24, .int .i8 a0_25, .int .i8 a0_26, .int .i8 a0_27, .slice A0_28 l0_28.length c0_28] 26 (0, 0)) (by (with_reducible repeat (first | refine blk_drewN ?_ _ | refine blk_drew ?_ | refine blk_alloc ?_ _)); exact BK187.out) hb); have n1_ := Aside0.mk (below_step (by repeat (first | (with_reducible first | exact HB.out | apply below_alloc | apply pw_below_drewN | apply below_drew1 | refine below_set ?_ GE187.out) | exact HB.out)) hb); clear BK187; clear HB; have BK187 := n0_; have HB := n1_; clear n0_ n1_; (try clear hb); (try clear hb2); (try clear hk); (try clear hi)) | ((with_reducible refine gate_dst (N := 20) rfl ?_); refine wpList_load_mid rfl 26 (.tmp 2) rfl gb187 0 rfl [.int .i8 a0_0, .int .i8 a0_1, .int .i8 a0_2, .int .i8 a0_3, .int .i8 a0_4, .int .i8 a0_5, .int .i8 a0_6, .int .i8 a0_7, .int .i8 a0_8, .int .i8 a0_9, .int .i8 a0_10, .int .i8 a0_11, .int .i8 a0_12, .int .i8 a0_13, .int .i8 a0_14, .int .i8 a0_15, .int .i8 a0_16, .int .i8 a0_17, .int .i8 a0_18, .int .i8 a0_19, .int .i8 a0_20, .int .i8 a0_21, .int .i8 a0_22, .int .i8 a0_23, .int .i8 a0_24, .int .i8 a0_25, .int .i8 a0_26, .int .i8 a0_27, .slice A0_28 l0_28.length c0_28] _ (range_partx_ [] [.int .i8 a0_0, .int .i8 a0_1, .int .i8 a0_2, .int .i8 a0_3, .int .i8 a0_4, .int .i8 a0_5, .int .i8 a0_6, .int .i8 a0_7, .int .i8 a0_8, .int .i8 a0_9, .int .i8 a0_10, .int .i8 a0_11, .int .i8 a0_12, .int .i8 a0_13, .int .i8 a0_14, .int .i8 a0_15, .int .i8 a0_16, .int .i8 a0_17, .int .i8 a0_18, .int .i8 a0_19, .int .i8 a0_20, .int .i8 a0_21, .int .i8 a0_22, .int .i8 a0_23, .int .i8 a0_24, .int .i8 a0_25, .int .i8 a0_26, .int .i8 a0_27, .slice A0_28 l0_28.length c0_28] [] 0 rfl (by (with_reducible repeat (first | refine blk_drewN ?_ _ | refine blk_drew ?_ | refine blk_alloc ?_ _)); exact BK187.out)) Tryd.underlying26 rfl (by exact (show (Tryd.prog.info? 26).map (·.size) = some 29 by kernel_rfl)) ?_) | ((with_reducible refine gate_callee (f := 20) rfl ?_); refine goesL_ (some 21) rfl rfl Tryd.func20 (by kernel_rfl) rfl #[.agg #[.int .i8 a0_0, .int .i8 a0_1, .int .i8 a0_2, .int .i8 a0_3, .int .i8 a0_4, .int .i8 a0_5, .int .i8 a0_6, .int .i8 a0_7, .int .i8 a0_8, .int .i8 a0_9, .int .i8 a0_10, .int .i8 a0_11, .int .i8 a0_12, .int .i8 a0_13, .int .i8 a0_14, .int .i8 a0_15, .int .i8 a0_16, .int .i8 a0_17, .int .i8 a0_18, .int .i8 a0_19, .int .i8 a0_20, .int .i8 a0_21, .int .i8 a0_22, .int .i8 a0_23, .int .i8 a0_24, .int .i8 a0_25, .int .i8 a0_26, .int .i8 a0_27, .slice A0_28 l0_28.length c0_28]] rfl (by (try simp only [List.map_toArray, List.map_cons, List.map_nil]); first | done | rfl | (simp only [List.length_drop, List.length_take]; rfl)) ?_; (with_reducible refine (laws_toFace.calls a0_0 a0_1 a0_2 a0_3 a0_4 a0_5 a0_6 a0_7 a0_8 a0_9 a0_10 a0_11 a0_12 a0_13 a0_14 a0_15 a0_16 a0_17 a0_18 a0_19 a0_20 a0_21 a0_22 a0_23 a0_24 a0_25 a0_26 a0_27 _ _ l0_28 t189 t190 t191 t192 t193 t194 t195 t196 t197 t198 t199 t200 t201 t202 t203 t204 t205 t206 t207 t208 t209 t210 t211 t212 t213 t214 t215 t216 t217 _ ?side1 ?side2 A9.out).mono ?_); (case side1 => repeat (first | exact (Kd.C_below HR0_28.out HB.out) | (with_reducible refine Kd.C_alloc ?_ _) | (with_reducible refine Kd.C_drewN ?_ _) | (with_reducible refine Kd.C_drew ?_))); (case side2 => exact HC0_28.out); rintro e w16 ⟨v218, rfl, ho0, hb⟩; refine ⟨_, rfl, ?_⟩; have n0_ := Aside0.mk (Kd.R_lower ho0 (below_size (by repeat (first | (with_reducible first | exact HB.out | apply below_alloc | apply pw_below_drewN | apply below_drew1 | refine below_set ?_ GE187.out) | exact HB.out)))); have n1_ := Aside0.mk (blk_below (g := gb187) (o := .cells #[.int .i8 a0_0, .int .i8 a0_1, .int .i8 a0_2, .int .i8 a0_3, .int .i8 a0_4, .int .i8 a0_5, .int .i8 a0_6, .int .i8 a0_7, .int .i8 a0_8, .int .i8 a0_9, .int .i8 a0_10, .int .i8 a0_11, .int .i8 a0_12, .int .i8 a0_13, .int .i8 a0_14, .int .i8 a0_15, .int .i8 a0_16, .int .i8 a0_17, .int .i8 a0_18, .int .i8 a0_19, .int .i8 a0_20, .int .i8 a0_21, .int .i8 a0_22, .int .i8 a0_23, .int .i8 a0_24, .int .i8 a0_25, .int .i8 a0_26, .int .i8 a0_27, .slice A0_28 l0_28.length c0_28] 26 (0, 0)) (by (with_reducible repeat (first | refine blk_drewN ?_ _ | refine blk_drew ?_ | refine blk_alloc ?_ _)); exact BK187.out) hb); have n2_ := Aside0.mk (below_step (by repeat (first | (with_reducible first | exact HB.out | apply below_alloc | apply pw_below_drewN | apply below_drew1 | refine below_set ?_ GE187.out) | exact HB.out)) hb); clear BK187; clear HB; have HO219 := n0_; have BK187 := n1_; have HB := n2_; clear n0_ n1_ n2_; (try clear hb); (try clear hb2); (try clear hk); (try clear hi); (try clear ho0); obtain ⟨Ao17, co17, eo17⟩ := Kd.R_slice HO219.out; subst eo17) | ((with_reducible refine gate_callee (f := 19) rfl ?_); refine goesL_ (some 23) rfl rfl Tryd.func19 (by kernel_rfl) rfl #[.agg #[.int .i8 t189, .int .i8 t190, .int .i8 t191, .int .i8 t192, .int .i8 t193, .int .i8 t194, .int .i8 t195, .int .i8 t196, .int .i8 t197, .int .i8 t198, .int .i8 t199, .int .i8 t200, .int .i8 t201, .int .i8 t202, .int .i8 t203, .int .i8 t204, .int .i8 t205, .int .i8 t206, .int .i8 t207, .int .i8 t208, .int .i8 t209, .int .i8 t210, .int .i8 t211, .int .i8 t212, .int .i8 t213, .int .i8 t214, .int .i8 t215, .int .i8 t216, .slice Ao17 t217.length co17], .string a1] rfl (by (try simp only [List.map_toArray, List.map_cons, List.map_nil]); first | done | rfl | (simp only [List.length_drop, List.length_take]; rfl)) ?_; (with_reducible refine (spec_WordWide.calls k t189 t190 t191 t192 t193 t194 t195 t196 t197 t198 t199 t200 t201 t202 t203 t204 t205 t206 t207 t208 t209 t210 t211 t212 t213 t214 t215 t216 _ _ t217 a1 t220 t221 _ ?side1 ?side2 A10.out).mono ?_); (case side1 => repeat (first | exact (Kd.R_reads' HO219.out).2.2 | (with_reducible refine Kd.C_alloc ?_ _) | (with_reducible refine Kd.C_drewN ?_ _) | (with_reducible refine Kd.C_drew ?_))); (case side2 => exact (Kd.R_reads' HO219.out).2.1); rintro e w18 ⟨rfl, hb⟩; refine ⟨_, rfl, ?_⟩; have n0_ := Aside0.mk (Kd.R_below (by (with_reducible repeat (first | apply Kd.R_alloc | apply Kd.R_drewN | apply Kd.R_drew)); exact HO219.out) hb); have n1_ := Aside0.mk (blk_below (g := gb187) (o := .cells #[.int .i8 a0_0, .int .i8 a0_1, .int .i8 a0_2, .int .i8 a0_3, .int .i8 a0_4, .int .i8 a0_5, .int .i8 a0_6, .int .i8 a0_7, .int .i8 a0_8, .int .i8 a0_9, .int .i8 a0_10, .int .i8 a0_11, .int .i8 a0_12, .int .i8 a0_13, .int .i8 a0_14, .int .i8 a0_15, .int .i8 a0_16, .int .i8 a0_17, .int .i8 a0_18, .int .i8 a0_19, .int .i8 a0_20, .int .i8 a0_21, .int .i8 a0_22, .int .i8 a0_23, .int .i8 a0_24, .int .i8 a0_25, .int .i8 a0_26, .int .i8 a0_27, .slice A0_28 l0_28.length c0_28] 26 (0, 0)) (by (with_reducible repeat (first | refine blk_drewN ?_ _ | refine blk_drew ?_ | refine blk_alloc ?_ _)); exact BK187.out) hb); have n2_ := Aside0.mk (below_step (by repeat (first | (with_reducible first | exact HB.out | apply below_alloc | apply pw_below_drewN | apply below_drew1 | refine below_set ?_ GE187.out) | exact HB.out)) hb); clear HO219; clear BK187; clear HB; have HO219 := n0_; have BK187 := n1_; have HB := n2_; clear n0_ n1_ n2_; (try clear hb); (try clear hb2); (try clear hk); (try clear hi)) | ((with_reducible refine gate_dst (N := 26) rfl ?_); refine wpList_load_mid rfl 26 (.tmp 2) rfl gb187 0 rfl [.int .i8 a0_0, .int .i8 a0_1, .int .i8 a0_2, .int .i8 a0_3, .int .i8 a0_4, .int .i8 a0_5, .int .i8 a0_6, .int .i8 a0_7, .int .i8 a0_8, .int .i8 a0_9, .int .i8 a0_10, .int .i8 a0_11, .int .i8 a0_12, .int .i8 a0_13, .int .i8 a0_14, .int .i8 a0_15, .int .i8 a0_16, .int .i8 a0_17, .int .i8 a0_18, .int .i8 a0_19, .int .i8 a0_20, .int .i8 a0_21, .int .i8 a0_22, .int .i8 a0_23, .int .i8 a0_24, .int .i8 a0_25, .int .i8 a0_26, .int .i8 a0_27, .slice A0_28 l0_28.length c0_28] _ (range_partx_ [] [.int .i8 a0_0, .int .i8 a0_1, .int .i8 a0_2, .int .i8 a0_3, .int .i8 a0_4, .int .i8 a0_5, .int .i8 a0_6, .int .i8 a0_7, .int .i8 a0_8, .int .i8 a0_9, .int .i8 a0_10, .int .i8 a0_11, .int .i8 a0_12, .int .i8 a0_13, .int .i8 a0_14, .int .i8 a0_15, .int .i8 a0_16, .int .i8 a0_17, .int .i8 a0_18, .int .i8 a0_19, .int .i8 a0_20, .int .i8 a0_21, .int .i8 a0_22, .int .i8 a0_23, .int .i8 a0_24, .int .i8 a0_25, .int .i8 a0_26, .int .i8 a0_27, .slice A0_28 l0_28.length c0_28] [] 0 rfl (by (with_reducible repeat (first | refine blk_drewN ?_ _ | refine blk_drew ?_ | refine blk_alloc ?_ _)); exact BK187.out)) Tryd.underlying26 rfl (by exact (show (Tryd.prog.info? 26).map (·.size) = some 29 by kernel_rfl)) ?_) | ((with_reducible refine gate_callee (f := 20) rfl ?_); refine goesL_ (some 27) rfl rfl Tryd.func20 (by kernel_rfl) rfl #[.agg #[.int .i8 a0_0, .int .i8 a0_1, .int .i8 a0_2, .int .i8 a0_3, .int .i8 a0_4, .int .i8 a0_5, .int .i8 a0_6, .int .i8 a0_7, .int .i8 a0_8, .int .i8 a0_9, .int .i8 a0_10, .int .i8 a0_11, .int .i8 a0_12, .int .i8 a0_13, .int .i8 a0_14, .int .i8 a0_15, .int .i8 a0_16, .int .i8 a0_17, .int .i8 a0_18, .int .i8 a0_19, .int .i8 a0_20, .int .i8 a0_21, .int .i8 a0_22, .int .i8 a0_23, .int .i8 a0_24, .int .i8 a0_25, .int .i8 a0_26, .int .i8 a0_27, .slice A0_28 l0_28.length c0_28]] rfl (by (try simp only [List.map_toArray, List.map_cons, List.map_nil]); first | done | rfl | (simp only [List.length_drop, List.length_take]; rfl)) ?_; (with_reducible refine (laws_toFace.calls a0_0 a0_1 a0_2 a0_3 a0_4 a0_5 a0_6 a0_7 a0_8 a0_9 a0_10 a0_11 a0_12 a0_13 a0_14 a0_15 a0_16 a0_17 a0_18 a0_19 a0_20 a0_21 a0_22 a0_23 a0_24 a0_25 a0_26 a0_27 _ _ l0_28 t222 t223 t224 t225 t226 t227 t228 t229 t230 t231 t232 t233 t234 t235 t236 t237 t238 t239 t240 t241 t242 t243 t244 t245 t246 t247 t248 t249 t250 _ ?side1 ?side2 A11.out).mono ?_); (case side1 => repeat (first | exact (Kd.C_below HR0_28.out HB.out) | (with_reducible refine Kd.C_alloc ?_ _) | (with_reducible refine Kd.C_drewN ?_ _) | (with_reducible refine Kd.C_drew ?_))); (case side2 => exact HC0_28.out); rintro e w19 ⟨v251, rfl, ho0, hb⟩; refine ⟨_, rfl, ?_⟩; have n0_ := Aside0.mk (Kd.R_elder' (by (with_reducible repeat (first | apply Kd.R_alloc | apply Kd.R_drewN | apply Kd.R_drew)); exact HO219.out) (Kd.R_base ho0) hb); have n1_ := Aside0.mk (Kd.R_lower (Kd.R_new' ho0 (Kd.R_lt (by (with_reducible repeat (first | apply Kd.R_alloc | apply Kd.R_drewN | apply Kd.R_drew)); exact HO219.out))) (below_size (by repeat (first | (with_reducible first | exact HB.out | apply below_alloc | apply pw_below_drewN | apply below_drew1 | refine below_set ?_ GE187.out) | exact HB.out)))); have n2_ := Aside0.mk (blk_below (g := gb187) (o := .cells #[.int .i8 a0_0, .int .i8 a0_1, .int .i8 a0_2, .int .i8 a0_3, .int .i8 a0_4, .int .i8 a0_5, .int .i8 a0_6, .int .i8 a0_7, .int .i8 a0_8, .int .i8 a0_9, .int .i8 a0_10, .int .i8 a0_11, .int .i8 a0_12, .int .i8 a0_13, .int .i8 a0_14, .int .i8 a0_15, .int .i8 a0_16, .int .i8 a0_17, .int .i8 a0_18, .int .i8 a0_19, .int .i8 a0_20, .int .i8 a0_21, .int .i8 a0_22, .int .i8 a0_23, .int .i8 a0_24, .int .i8 a0_25, .int .i8 a0_26, .int .i8 a0_27, .slice A0_28 l0_28.length c0_28] 26 (0, 0)) (by (with_reducible repeat (first | refine blk_drewN ?_ _ | refine blk_drew ?_ | refine blk_alloc ?_ _)); exact BK187.out) hb); have n3_ := Aside0.mk (below_step (by repeat (first | (with_reducible first | exact HB.out | apply below_alloc | apply pw_below_drewN | apply below_drew1 | refine below_set ?_ GE187.out) | exact HB.out)) hb); clear HO219; clear BK187; clear HB; have HO219 := n0_; have HO252 := n1_; have BK187 := n2_; have HB := n3_; clear n0_ n1_ n2_ n3_; (try clear hb); (try clear hb2); (try clear hk); (try clear hi); (try clear ho0)) | ((with_reducible refine gate_dst (N := 8) rfl ?_); refine box_event ?hg (N := 8) ?hd (cs := #[.int .i8 0, .int .i8 0, .int .i8 0, .int .i8 0, .int .i8 0, .int .i8 0, .int .i8 0, .int .i8 0, .int .i8 0, .int .i8 0, .int .i8 0, .int .i8 0, .int .i8 0, .int .i8 0, .int .i8 0, .int .i8 0, .int .i8 0, .int .i8 0, .int .i8 0, .int .i8 0, .int .i8 0, .int .i8 0, .int .i8 0, .int .i8 0, .int .i8 0, .int .i8 0, .int .i8 0, .int .i8 0, .slice none 0 0]) (t := 32) ?hr ?_; (case hd => rfl); (case hg => rfl); (case hr => first | (go_simp; done) | (go_simp; rfl)); intro gb253 hg w20 hbox hb; have n0_ := Aside0.mk (Kd.R_below (by (with_reducible repeat (first | apply Kd.R_alloc | apply Kd.R_drewN | apply Kd.R_drew)); exact HO219.out) hb); have n1_ := Aside0.mk (Kd.R_below (by (with_reducible repeat (first | apply Kd.R_alloc | apply Kd.R_drewN | apply Kd.R_drew)); exact HO252.out) hb); have n2_ := Aside0.mk (blk_below (g := gb187) (o := .cells #[.int .i8 a0_0, .int .i8 a0_1, .int .i8 a0_2, .int .i8 a0_3, .int .i8 a0_4, .int .i8 a0_5, .int .i8 a0_6, .int .i8 a0_7, .int .i8 a0_8, .int .i8 a0_9, .int .i8 a0_10, .int .i8 a0_11, .int .i8 a0_12, .int .i8 a0_13, .int .i8 a0_14, .int .i8 a0_15, .int .i8 a0_16, .int .i8 a0_17, .int .i8 a0_18, .int .i8 a0_19, .int .i8 a0_20, .int .i8 a0_21, .int .i8 a0_22, .int .i8 a0_23, .int .i8 a0_24, .int .i8 a0_25, .int .i8 a0_26, .int .i8 a0_27, .slice A0_28 l0_28.length c0_28] 26 (0, 0)) (by (with_reducible repeat (first | refine blk_drewN ?_ _ | refine blk_drew ?_ | refine blk_alloc ?_ _)); exact BK187.out) hb); have n3_ := Aside0.mk (below_step (by repeat (first | (with_reducible first | exact HB.out | apply below_alloc | apply pw_below_drewN | apply below_drew1 | refine below_set ?_ GE187.out) | exact HB.out)) hb); have n4_ := Aside0.mk (hbox); have n5_ := Aside0.mk ((by rw [hg]; exact (below_size (by repeat (first | (with_reducible first | exact HB.out | apply below_alloc | apply pw_below_drewN | apply below_drew1 | refine below_set ?_ GE187.out) | exact HB.out))) : w.heap.size ≤ gb253)); have n6_ := Aside0.mk ((by rw [hg]; exact (below_size (by repeat (first | (with_reducible first | exact HB.out | apply below_alloc | apply pw_below_drewN | apply below_drew1 | refine below_set ?_ GE187.out) | exact HB.out))) : w.heap.size ≤ gb253)); have n7_ := Aside0.mk ((by rw [hg]; exact Nat.ne_of_lt (blk_lt (g := gb187) (o := .cells #[.int .i8 a0_0, .int .i8 a0_1, .int .i8 a0_2, .int .i8 a0_3, .int .i8 a0_4, .int .i8 a0_5, .int .i8 a0_6, .int .i8 a0_7, .int .i8 a0_8, .int .i8 a0_9, .int .i8 a0_10, .int .i8 a0_11, .int .i8 a0_12, .int .i8 a0_13, .int .i8 a0_14, .int .i8 a0_15, .int .i8 a0_16, .int .i8 a0_17, .int .i8 a0_18, .int .i8 a0_19, .int .i8 a0_20, .int .i8 a0_21, .int .i8 a0_22, .int .i8 a0_23, .int .i8 a0_24, .int .i8 a0_25, .int .i8 a0_26, .int .i8 a0_27, .slice A0_28 l0_28.length c0_28] 26 (0, 0)) (by (with_reducible repeat (first | refine blk_drewN ?_ _ | refine blk_drew ?_ | refine blk_alloc ?_ _)); exact BK187.out)) : gb187 ≠ gb253)); have n8_ := Aside0.mk ((by rw [hg]; exact Nat.ne_of_gt (blk_lt (g := gb187) (o := .cells #[.int .i8 a0_0, .int .i8 a0_1, .int .i8 a0_2, .int .i8 a0_3, .int .i8 a0_4, .int .i8 a0_5, .int .i8 a0_6, .int .i8 a0_7, .int .i8 a0_8, .int .i8 a0_9, .int .i8 a0_10, .int .i8 a0_11, .int .i8 a0_12, .int .i8 a0_13, .int .i8 a0_14, .int .i8 a0_15, .int .i8 a0_16, .int .i8 a0_17, .int .i8 a0_18, .int .i8 a0_19, .int .i8 a0_20, .int .i8 a0_21, .int .i8 a0_22, .int .i8 a0_23, .int .i8 a0_24, .int .i8 a0_25, .int .i8 a0_26, .int .i8 a0_27, .slice A0_28 l0_28.length c0_28] 26 (0, 0)) (by (with_reducible repeat (first | refine blk_drewN ?_ _ | refine blk_drew ?_ | refine blk_alloc ?_ _)); exact BK187.out)) : gb253 ≠ gb187)); clear HO219; clear HO252; clear BK187; clear HB; have HO219 := n0_; have HO252 := n1_; have BK187 := n2_; have HB := n3_; have BK253 := n4_; have GW253 := n5_; have GE253 := n6_; have NB187_253 := n7_; have NB253_187 := n8_; clear n0_ n1_ n2_ n3_ n4_ n5_ n6_ n7_ n8_; clear hb hbox hg; obtain ⟨Ao21, co21, eo21⟩ := Kd.R_slice HO252.out; subst eo21) | ((with_reducible refine gate_store (t := 32) (p := 8) rfl ?_); refine ev_store_partx_ rfl 32 (.tmp 8) (.tmp 27) rfl rfl gb253 0 [] [.int .i8 0, .int .i8 0, .int .i8 0, .int .i8 0, .int .i8 0, .int .i8 0, .int .i8 0, .int .i8 0, .int .i8 0, .int .i8 0, .int .i8 0, .int .i8 0, .int .i8 0, .int .i8 0, .int .i8 0, .int .i8 0, .int .i8 0, .int .i8 0, .int .i8 0, .int .i8 0, .int .i8 0, .int .i8 0, .int .i8 0, .int .i8 0, .int .i8 0, .int .i8 0, .int .i8 0, .int .i8 0, .slice none 0 0] [.int .i8 t222, .int .i8 t223, .int .i8 t224, .int .i8 t225, .int .i8 t226, .int .i8 t227, .int .i8 t228, .int .i8 t229, .int .i8 t230, .int .i8 t231, .int .i8 t232, .int .i8 t233, .int .i8 t234, .int .i8 t235, .int .i8 t236, .int .i8 t237, .int .i8 t238, .int .i8 t239, .int .i8 t240, .int .i8 t241, .int .i8 t242, .int .i8 t243, .int .i8 t244, .int .i8 t245, .int .i8 t246, .int .i8 t247, .int .i8 t248, .int .i8 t249, .slice Ao21 t250.length co21] [] rfl rfl 32 rfl rfl (by (with_reducible repeat (first | refine blk_drewN ?_ _ | refine blk_drew ?_ | refine blk_alloc ?_ _)); exact BK253.out) (by exact (show (Tryd.prog.info? 32).map (·.size) = some 29 by kernel_rfl)) rfl ?_; intro w22 hblk hkep hbel; have n0_ := Aside0.mk ((show w22.heap[gb253]? = some (.cells #[.int .i8 t222, .int .i8 t223, .int .i8 t224, .int .i8 t225, .int .i8 t226, .int .i8 t227, .int .i8 t228, .int .i8 t229, .int .i8 t230, .int .i8 t231, .int .i8 t232, .int .i8 t233, .int .i8 t234, .int .i8 t235, .int .i8 t236, .int .i8 t237, .int .i8 t238, .int .i8 t239, .int .i8 t240, .int .i8 t241, .int .i8 t242, .int .i8 t243, .int .i8 t244, .int .i8 t245, .int .i8 t246, .int .i8 t247, .int .i8 t248, .int .i8 t249, .slice Ao21 t250.length co21] 32 (0, 0)) from hblk)); have n1_ := Aside0.mk (blk_kept (by (with_reducible repeat (first | refine blk_drewN ?_ _ | refine blk_drew ?_ | refine blk_alloc ?_ _)); exact BK187.out) hkep (fun e_ => NB187_253.out e_)); have n2_ := Aside0.mk (Kd.R_mono (Kd.R_kept (Kd.R_types (by (with_reducible repeat (first | apply Kd.R_alloc | apply Kd.R_drewN | apply Kd.R_drew)); exact HO219.out) (by (with_reducible repeat (first | refine blk_drewN ?_ _ | refine blk_drew ?_ | refine blk_alloc ?_ _)); exact BK253.out) (by decide)) hkep (fun k_ hk e_ => hk.2 e_)) (fun k_ hk => hk.1)); have n3_ := Aside0.mk (Kd.R_mono (Kd.R_kept (Kd.R_types (by (with_reducible repeat (first | apply Kd.R_alloc | apply Kd.R_drewN | apply Kd.R_drew)); exact HO252.out) (by (with_reducible repeat (first | refine blk_drewN ?_ _ | refine blk_drew ?_ | refine blk_alloc ?_ _)); exact BK253.out) (by decide)) hkep (fun k_ hk e_ => hk.2 e_)) (fun k_ hk => hk.1)); have n4_ := Aside0.mk ((show Below w.heap.size w w22 from Below.trans (by repeat (first | (with_reducible first | exact HB.out | apply below_alloc | apply pw_below_drewN | apply below_drew1 | refine below_set ?_ GE187.out | refine below_set ?_ GE253.out) | exact HB.out)) (hbel _ GW253.out))); clear BK253; clear BK187; clear HO219; clear HO252; clear HB; have BK253 := n0_; have BK187 := n1_; have HO219 := n2_; have HO252 := n3_; have HB := n4_; clear n0_ n1_ n2_ n3_ n4_; clear hblk hkep hbel) | ((with_reducible refine gate_dst (N := 29) rfl ?_); refine wpList_load_mid rfl 32 (.tmp 8) rfl gb253 0 rfl [.int .i8 t222, .int .i8 t223, .int .i8 t224, .int .i8 t225, .int .i8 t226, .int .i8 t227, .int .i8 t228, .int .i8 t229, .int .i8 t230, .int .i8 t231, .int .i8 t232, .int .i8 t233, .int .i8 t234, .int .i8 t235, .int .i8 t236, .int .i8 t237, .int .i8 t238, .int .i8 t239, .int .i8 t240, .int .i8 t241, .int .i8 t242, .int .i8 t243, .int .i8 t244, .int .i8 t245, .int .i8 t246, .int .i8 t247, .int .i8 t248, .int .i8 t249, .slice Ao21 t250.length co21] _ (range_partx_ [] [.int .i8 t222, .int .i8 t223, .int .i8 t224, .int .i8 t225, .int .i8 t226, .int .i8 t227, .int .i8 t228, .int .i8 t229, .int .i8 t230, .int .i8 t231, .int .i8 t232, .int .i8 t233, .int .i8 t234, .int .i8 t235, .int .i8 t236, .int .i8 t237, .int .i8 t238, .int .i8 t239, .int .i8 t240, .int .i8 t241, .int .i8 t242, .int .i8 t243, .int .i8 t244, .int .i8 t245, .int .i8 t246, .int .i8 t247, .int .i8 t248, .int .i8 t249, .slice Ao21 t250.length co21] [] 0 rfl (by (with_reducible repeat (first | refine blk_drewN ?_ _ | refine blk_drew ?_ | refine blk_alloc ?_ _)); exact BK253.out)) Tryd.underlying32 rfl (by exact (show (Tryd.prog.info? 32).map (·.size) = some 29 by kernel_rfl)) ?_) | ((with_reducible refine gate_callee (f := 21) rfl ?_); refine goesL_ (some 31) rfl rfl Tryd.func21 (by kernel_rfl) rfl #[.agg #[.int .i8 t222, .int .i8 t223, .int .i8 t224, .int .i8 t225, .int .i8 t226, .int .i8 t227, .int .i8 t228, .int .i8 t229, .int .i8 t230, .int .i8 t231, .int .i8 t232, .int .i8 t233, .int .i8 t234, .int .i8 t235, .int .i8 t236, .int .i8 t237, .int .i8 t238, .int .i8 t239, .int .i8 t240, .int .i8 t241, .int .i8 t242, .int .i8 t243, .int .i8 t244, .int .i8 t245, .int .i8 t246, .int .i8 t247, .int .i8 t248, .int .i8 t249, .slice Ao21 t250.length co21], .string a1] rfl (by (try simp only [List.map_toArray, List.map_cons, List.map_nil]); first | done | rfl | (simp only [List.length_drop, List.length_take]; rfl)) ?_; (with_reducible refine (impl_WordWide.calls k t222 t223 t224 t225 t226 t227 t228 t229 t230 t231 t232 t233 t234 t235 t236 t237 t238 t239 t240 t241 t242 t243 t244 t245 t246 t247 t248 t249 _ _ t250 a1 t254 t255 _ ?side1 ?side2 ?sideG A12.out).mono ?_); (case sideG => first | exact HG.out.below (by repeat (first | (with_reducible first | exact HB.out | apply below_alloc | apply pw_below_drewN | apply below_drew1) | exact HB.out)) | exact (HG.out.below (by repeat (first | (with_reducible first | exact HB.out | apply below_alloc | apply pw_below_drewN | apply below_drew1) | exact HB.out))).toM); (case side1 => repeat (first | exact (Kd.R_reads' HO252.out).2.2 | (with_reducible refine Kd.C_alloc ?_ _) | (with_reducible refine Kd.C_drewN ?_ _) | (with_reducible refine Kd.C_drew ?_))); (case side2 => exact (Kd.R_reads' HO252.out).2.1); rintro e w23 ⟨rfl, hb⟩; refine ⟨_, rfl, ?_⟩; have n0_ := Aside0.mk (Kd.R_below (by (with_reducible repeat (first | apply Kd.R_alloc | apply Kd.R_drewN | apply Kd.R_drew)); exact HO219.out) hb); have n1_ := Aside0.mk (Kd.R_below (by (with_reducible repeat (first | apply Kd.R_alloc | apply Kd.R_drewN | apply Kd.R_drew)); exact HO252.out) hb); have n2_ := Aside0.mk (blk_below (g := gb187) (o := .cells #[.int .i8 a0_0, .int .i8 a0_1, .int .i8 a0_2, .int .i8 a0_3, .int .i8 a0_4, .int .i8 a0_5, .int .i8 a0_6, .int .i8 a0_7, .int .i8 a0_8, .int .i8 a0_9, .int .i8 a0_10, .int .i8 a0_11, .int .i8 a0_12, .int .i8 a0_13, .int .i8 a0_14, .int .i8 a0_15, .int .i8 a0_16, .int .i8 a0_17, .int .i8 a0_18, .int .i8 a0_19, .int .i8 a0_20, .int .i8 a0_21, .int .i8 a0_22, .int .i8 a0_23, .int .i8 a0_24, .int .i8 a0_25, .int .i8 a0_26, .int .i8 a0_27, .slice A0_28 l0_28.length c0_28] 26 (0, 0)) (by (with_reducible repeat (first | refine blk_drewN ?_ _ | refine blk_drew ?_ | refine blk_alloc ?_ _)); exact BK187.out) hb); have n3_ := Aside0.mk (blk_below (g := gb253) (o := .cells #[.int .i8 t222, .int .i8 t223, .int .i8 t224, .int .i8 t225, .int .i8 t226, .int .i8 t227, .int .i8 t228, .int .i8 t229, .int .i8 t230, .int .i8 t231, .int .i8 t232, .int .i8 t233, .int .i8 t234, .int .i8 t235, .int .i8 t236, .int .i8 t237, .int .i8 t238, .int .i8 t239, .int .i8 t240, .int .i8 t241, .int .i8 t242, .int .i8 t243, .int .i8 t244, .int .i8 t245, .int .i8 t246, .int .i8 t247, .int .i8 t248, .int .i8 t249, .slice Ao21 t250.length co21] 32 (0, 0)) (by (with_reducible repeat (first | refine blk_drewN ?_ _ | refine blk_drew ?_ | refine blk_alloc ?_ _)); exact BK253.out) hb); have n4_ := Aside0.mk (below_step (by repeat (first | (with_reducible first | exact HB.out | apply below_alloc | apply pw_below_drewN | apply below_drew1 | refine below_set ?_ GE187.out | refine below_set ?_ GE253.out) | exact HB.out)) hb); clear HO219; clear HO252; clear BK187; clear BK253; clear HB; have HO219 := n0_; have HO252 := n1_; have BK187 := n2_; have BK253 := n3_; have HB := n4_; clear n0_ n1_ n2_ n3_ n4_; (try clear hb); (try clear hb2); (try clear hk); (try clear hi)))
      (try simp only [Act.put, List.setIfInBounds_toArray, List.set_cons_zero, List.set_cons_succ])
      go_cut [41] (fun v41 wc => ∃ (kq : Nat) (x41_12 : Bool), v41 = .bool x41_12 ∧ Aside0 (laws_FnExactWordWide.j0 kq x41_12 a0_0 a0_1 a0_2 a0_3 a0_4 a0_5 a0_6 a0_7 a0_8 a0_9 a0_10 a0_11 a0_12 a0_13 a0_14 a0_15 a0_16 a0_17 a0_18 a0_19 a0_20 a0_21 a0_22 a0_23 a0_24 a0_25 a0_26 a0_27 l0_28 t222 t223 t224 t225 t226 t227 t228 t229 t230 t231 t232 t233 t234 t235 t236 t237 t238 t239 t240 t241 t242 t243 t244 t245 t246 t247 t248 t249 t250 = some r) ∧ Aside0 (kq ≤ k) ∧ Aside0 (Kd.R k137 137 wc w.heap.size (fun _ => True) (.slice Ao21 t250.length co21) t250) ∧ Aside0 (wc.heap[gb187]? = some (.cells #[.int .i8 a0_0, .int .i8 a0_1, .int .i8 a0_2, .int .i8 a0_3, .int .i8 a0_4, .int .i8 a0_5, .int .i8 a0_6, .int .i8 a0_7, .int .i8 a0_8, .int .i8 a0_9, .int .i8 a0_10, .int .i8 a0_11, .int .i8 a0_12, .int .i8 a0_13, .int .i8 a0_14, .int .i8 a0_15, .int .i8 a0_16, .int .i8 a0_17, .int .i8 a0_18, .int .i8 a0_19, .int .i8 a0_20, .int .i8 a0_21, .int .i8 a0_22, .int .i8 a0_23, .int .i8 a0_24, .int .i8 a0_25, .int .i8 a0_26, .int .i8 a0_27, (.slice A0_28 l0_28.length c0_28)] 26 (0, 0))) ∧ Aside0 (wc.heap[gb253]? = some (.cells #[.int .i8 t222, .int .i8 t223, .int .i8 t224, .int .i8 t225, .int .i8 t226, .int .i8 t227, .int .i8 t228, .int .i8 t229, .int .i8 t230, .int .i8 t231, .int .i8 t232, .int .i8 t233, .int .i8 t234, .int .i8 t235, .int .i8 t236, .int .i8 t237, .int .i8 t238, .int .i8 t239, .int .i8 t240, .int .i8 t241, .int .i8 t242, .int .i8 t243, .int .i8 t244, .int .i8 t245, .int .i8 t246, .int .i8 t247, .int .i8 t248, .int .i8 t249, (.slice Ao21 t250.length co21)] 32 (0, 0))) ∧ Aside0 (Below w.heap.size w wc))
      case first =>
        have H := HC13.out
        clear HC13
        by_cases c24 : t254 = t220
        · rw [if_pos c24] at H
          have c24b0 : (t254 == t220) = true := beq_iff_eq.mpr c24
          have c24b1 : (t254 != t220) = false := bne_eq_false_iff_eq.mpr c24
          clear c24
          (first | rw [c24b0] | (simp only [i64_w, i32_w]; rw [c24b0]) | skip)
          have H' := Aside0.mk H
          clear H
          go_wp2
          go_meet
          case rel => exact ⟨_, ((t255 != t221)), (by first | rfl | (simp; done) | (simp [*]; done)), H', ⟨by first | omega | exact Nat.le_refl _⟩, ⟨by (with_reducible repeat (first | apply Kd.R_alloc | apply Kd.R_drewN | apply Kd.R_drew)); exact Kd.R_mono HO252.out (fun _ hk => trivial)⟩, ⟨by (with_reducible repeat (first | refine blk_drewN ?_ _ | refine blk_drew ?_ | refine blk_alloc ?_ _)); exact BK187.out⟩, ⟨by (with_reducible repeat (first | refine blk_drewN ?_ _ | refine blk_drew ?_ | refine blk_alloc ?_ _)); exact BK253.out⟩, ⟨by repeat (first | (with_reducible first | exact HB.out | apply below_alloc | apply pw_below_drewN | apply below_drew1 | refine below_set ?_ GE187.out | refine below_set ?_ GE253.out) | exact HB.out)⟩⟩
        · rw [if_neg c24] at H
          have c24b0 : (t254 == t220) = false := beq_eq_false_iff_ne.mpr c24
          have c24b1 : (t254 != t220) = true := bne_iff_ne.mpr c24
          (first | rw [c24b0] | (simp only [i64_w, i32_w]; rw [c24b0]) | skip)
          have H' := Aside0.mk H
          clear H
          go_wp2
          go_meet
          case rel => exact ⟨_, (true), (by first | rfl | (simp; done) | (simp [*]; done)), H', ⟨by first | omega | exact Nat.le_refl _⟩, ⟨by (with_reducible repeat (first | apply Kd.R_alloc | apply Kd.R_drewN | apply Kd.R_drew)); exact Kd.R_mono HO252.out (fun _ hk => trivial)⟩, ⟨by (with_reducible repeat (first | refine blk_drewN ?_ _ | refine blk_drew ?_ | refine blk_alloc ?_ _)); exact BK187.out⟩, ⟨by (with_reducible repeat (first | refine blk_drewN ?_ _ | refine blk_drew ?_ | refine blk_alloc ?_ _)); exact BK253.out⟩, ⟨by repeat (first | (with_reducible first | exact HB.out | apply below_alloc | apply pw_below_drewN | apply below_drew1 | refine below_set ?_ GE187.out | refine below_set ?_ GE253.out) | exact HB.out)⟩⟩
      case rest =>
        clear HC13
        try clear c1
        try clear c2
        try clear p2
        try clear c3
        try clear c3b0
        try clear c3b1
        try clear c6
        try clear c6b0
        try clear c18
        try clear c19
        try clear c20
        try clear c21
        try clear c24
        try clear c24b0
        try clear c24b1
        obtain ⟨kq, x41_12, rfl, HA, HJ12, HO_254028, BK187, BK253, HB⟩ := hcut
        cases kq with
        | zero => exact absurd HA.out (by simp [laws_FnExactWordWide.j0])
        | succ kj12 =>
          have H := HA.out
          clear HA
          simp only [laws_FnExactWordWide.j0] at H
          by_cases c25 : x41_12 = true
          · subst c25
            have H1 : (some false) = some r := by rw [if_pos rfl] at H; exact H
            clear H
            have H := H1
            clear H1
            obtain rfl := Option.some.inj H
            go_wp2
            go_ret
            exact ⟨by first | rfl | (simp [errW_none, errW_some] <;> rfl) | (simp [*, errW_none, errW_some] <;> rfl), by repeat (first | (with_reducible first | exact HB.out | apply below_alloc | apply pw_below_drewN | apply below_drew1 | refine below_set ?_ GE187.out | refine below_set ?_ GE253.out) | exact HB.out)⟩
          · replace c25 := Bool.eq_false_iff.mpr c25
            subst c25
            have H1 : ((laws_toFace.f a0_0 a0_1 a0_2 a0_3 a0_4 a0_5 a0_6 a0_7 a0_8 a0_9 a0_10 a0_11 a0_12 a0_13 a0_14 a0_15 a0_16 a0_17 a0_18 a0_19 a0_20 a0_21 a0_22 a0_23 a0_24 a0_25 a0_26 a0_27 l0_28).bind fun bt256 => ((laws_eqFace.f kj12 t222 t223 t224 t225 t226 t227 t228 t229 t230 t231 t232 t233 t234 t235 t236 t237 t238 t239 t240 t241 t242 t243 t244 t245 t246 t247 t248 t249 t250 bt256.1 bt256.2.1 bt256.2.2.1 bt256.2.2.2.1 bt256.2.2.2.2.1 bt256.2.2.2.2.2.1 bt256.2.2.2.2.2.2.1 bt256.2.2.2.2.2.2.2.1 bt256.2.2.2.2.2.2.2.2.1 bt256.2.2.2.2.2.2.2.2.2.1 bt256.2.2.2.2.2.2.2.2.2.2.1 bt256.2.2.2.2.2.2.2.2.2.2.2.1 bt256.2.2.2.2.2.2.2.2.2.2.2.2.1 bt256.2.2.2.2.2.2.2.2.2.2.2.2.2.1 bt256.2.2.2.2.2.2.2.2.2.2.2.2.2.2.1 bt256.2.2.2.2.2.2.2.2.2.2.2.2.2.2.2.1 bt256.2.2.2.2.2.2.2.2.2.2.2.2.2.2.2.2.1 bt256.2.2.2.2.2.2.2.2.2.2.2.2.2.2.2.2.2.1 bt256.2.2.2.2.2.2.2.2.2.2.2.2.2.2.2.2.2.2.1 bt256.2.2.2.2.2.2.2.2.2.2.2.2.2.2.2.2.2.2.2.1 bt256.2.2.2.2.2.2.2.2.2.2.2.2.2.2.2.2.2.2.2.2.1 bt256.2.2.2.2.2.2.2.2.2.2.2.2.2.2.2.2.2.2.2.2.2.1 bt256.2.2.2.2.2.2.2.2.2.2.2.2.2.2.2.2.2.2.2.2.2.2.1 bt256.2.2.2.2.2.2.2.2.2.2.2.2.2.2.2.2.2.2.2.2.2.2.2.1 bt256.2.2.2.2.2.2.2.2.2.2.2.2.2.2.2.2.2.2.2.2.2.2.2.2.1 bt256.2.2.2.2.2.2.2.2.2.2.2.2.2.2.2.2.2.2.2.2.2.2.2.2.2.1 bt256.2.2.2.2.2.2.2.2.2.2.2.2.2.2.2.2.2.2.2.2.2.2.2.2.2.2.1 bt256.2.2.2.2.2.2.2.2.2.2.2.2.2.2.2.2.2.2.2.2.2.2.2.2.2.2.2.1 bt256.2.2.2.2.2.2.2.2.2.2.2.2.2.2.2.2.2.2.2.2.2.2.2.2.2.2.2.2).bind fun t287 => (if t287 = true then (some true) else (some false)))) = some r := by rw [if_neg (show ¬ (false = true) by decide)] at H; exact H
            clear H
            have H := H1
            clear H1
            replace H := Option.bind_eq_some_iff.mp H
            obtain ⟨⟨t256, t257, t258, t259, t260, t261, t262, t263, t264, t265, t266, t267, t268, t269, t270, t271, t272, t273, t274, t275, t276, t277, t278, t279, t280, t281, t282, t283, t284⟩, A260, H⟩ := H
            replace H : ((laws_eqFace.f kj12 t222 t223 t224 t225 t226 t227 t228 t229 t230 t231 t232 t233 t234 t235 t236 t237 t238 t239 t240 t241 t242 t243 t244 t245 t246 t247 t248 t249 t250 t256 t257 t258 t259 t260 t261 t262 t263 t264 t265 t266 t267 t268 t269 t270 t271 t272 t273 t274 t275 t276 t277 t278 t279 t280 t281 t282 t283 t284).bind fun t287 => (if t287 = true then (some true) else (some false))) = some r := H
            have A26 := Aside0.mk A260
            clear A260
            replace H := Option.bind_eq_some_iff.mp H
            obtain ⟨t287, A270, H⟩ := H
            replace H : (if t287 = true then (some true) else (some false)) = some r := H
            have A27 := Aside0.mk A270
            clear A270
            by_cases c28 : t287 = true
            · subst c28
              have H1 : (some true) = some r := by rw [if_pos rfl] at H; exact H
              clear H
              have H := H1
              clear H1
              obtain rfl := Option.some.inj H
              try go_wp2
              have n0_ := Aside0.mk (Kd.R_drew HO_254028.out)
              have n1_ := Aside0.mk (blk_drew BK187.out)
              have n2_ := Aside0.mk (blk_drew BK253.out)
              have n3_ := Aside0.mk (below_drew1 HB.out)
              clear HO_254028
              clear BK187
              clear BK253
              clear HB
              have HO_254028 := n0_
              have BK187 := n1_
              have BK253 := n2_
              have HB := n3_
              clear n0_ n1_ n2_ n3_
              refine start_ (n := 5) (S := fun w' => w'.heap[gb253]? = some (.cells #[.int .i8 t222, .int .i8 t223, .int .i8 t224, .int .i8 t225, .int .i8 t226, .int .i8 t227, .int .i8 t228, .int .i8 t229, .int .i8 t230, .int .i8 t231, .int .i8 t232, .int .i8 t233, .int .i8 t234, .int .i8 t235, .int .i8 t236, .int .i8 t237, .int .i8 t238, .int .i8 t239, .int .i8 t240, .int .i8 t241, .int .i8 t242, .int .i8 t243, .int .i8 t244, .int .i8 t245, .int .i8 t246, .int .i8 t247, .int .i8 t248, .int .i8 t249, .slice Ao21 t250.length co21] 32 (0, 0)) ∧ w'.heap[gb187]? = some (.cells #[.int .i8 a0_0, .int .i8 a0_1, .int .i8 a0_2, .int .i8 a0_3, .int .i8 a0_4, .int .i8 a0_5, .int .i8 a0_6, .int .i8 a0_7, .int .i8 a0_8, .int .i8 a0_9, .int .i8 a0_10, .int .i8 a0_11, .int .i8 a0_12, .int .i8 a0_13, .int .i8 a0_14, .int .i8 a0_15, .int .i8 a0_16, .int .i8 a0_17, .int .i8 a0_18, .int .i8 a0_19, .int .i8 a0_20, .int .i8 a0_21, .int .i8 a0_22, .int .i8 a0_23, .int .i8 a0_24, .int .i8 a0_25, .int .i8 a0_26, .int .i8 a0_27, .slice A0_28 l0_28.length c0_28] 26 (0, 0))) (ds := []) #[false, false, false, false, false] (by kernel_rfl) rfl rfl ⟨BK253.out, BK187.out⟩ (fun hHeld => ?_)
              generalize wc.drew = w29 at HO_254028 BK187 BK253 HB hHeld ⊢
              refine take_ (i := 0) (N := some 42) (v := ?_) (a' := ?_) #[true, false, false, false, false] rfl rfl (by kernel_rfl) (fun _ _ _ h => h) (Or.inl ⟨by rfl, ?_⟩) hHeld ?_ ?_
              rotate_left
              · rintro w' ⟨s0, s1⟩
                refine exec_load_partx_ 32 (.tmp 8) _ 0 [] [.int .i8 t222, .int .i8 t223, .int .i8 t224, .int .i8 t225, .int .i8 t226, .int .i8 t227, .int .i8 t228, .int .i8 t229, .int .i8 t230, .int .i8 t231, .int .i8 t232, .int .i8 t233, .int .i8 t234, .int .i8 t235, .int .i8 t236, .int .i8 t237, .int .i8 t238, .int .i8 t239, .int .i8 t240, .int .i8 t241, .int .i8 t242, .int .i8 t243, .int .i8 t244, .int .i8 t245, .int .i8 t246, .int .i8 t247, .int .i8 t248, .int .i8 t249, .slice Ao21 t250.length co21] [] rfl s0 ?_ ?_ Tryd.underlying32 rfl (by exact (show (Tryd.prog.info? 32).map (·.size) = some 29 by kernel_rfl))
                · rfl
                · rfl
              rotate_left
              · simp only [Act.put, List.setIfInBounds_toArray, List.set_cons_zero, List.set_cons_succ, i64_w, i32_w, u8_w_]
                rfl
              refine take_ (i := 1) (N := some 43) (v := ?_) (a' := ?_) #[true, true, false, false, false] rfl rfl (by kernel_rfl) (fun _ _ _ h => h) (Or.inl ⟨by rfl, ?_⟩) hHeld ?_ ?_
              rotate_left
              · rintro w' ⟨s0, s1⟩
                refine exec_load_partx_ 26 (.tmp 2) _ 0 [] [.int .i8 a0_0, .int .i8 a0_1, .int .i8 a0_2, .int .i8 a0_3, .int .i8 a0_4, .int .i8 a0_5, .int .i8 a0_6, .int .i8 a0_7, .int .i8 a0_8, .int .i8 a0_9, .int .i8 a0_10, .int .i8 a0_11, .int .i8 a0_12, .int .i8 a0_13, .int .i8 a0_14, .int .i8 a0_15, .int .i8 a0_16, .int .i8 a0_17, .int .i8 a0_18, .int .i8 a0_19, .int .i8 a0_20, .int .i8 a0_21, .int .i8 a0_22, .int .i8 a0_23, .int .i8 a0_24, .int .i8 a0_25, .int .i8 a0_26, .int .i8 a0_27, .slice A0_28 l0_28.length c0_28] [] rfl s1 ?_ ?_ Tryd.underlying26 rfl (by exact (show (Tryd.prog.info? 26).map (·.size) = some 29 by kernel_rfl))
                · rfl
                · rfl
              rotate_left
              · simp only [Act.put, List.setIfInBounds_toArray, List.set_cons_zero, List.set_cons_succ, i64_w, i32_w, u8_w_]
                rfl
              refine one_ (i := 2) (N := some 44) #[true, true, true, false, false] rfl rfl (by kernel_rfl) (by decide) (fun K hK => ?_)
              refine goes_ Tryd.func20 (by kernel_rfl) rfl #[.agg #[.int .i8 a0_0, .int .i8 a0_1, .int .i8 a0_2, .int .i8 a0_3, .int .i8 a0_4, .int .i8 a0_5, .int .i8 a0_6, .int .i8 a0_7, .int .i8 a0_8, .int .i8 a0_9, .int .i8 a0_10, .int .i8 a0_11, .int .i8 a0_12, .int .i8 a0_13, .int .i8 a0_14, .int .i8 a0_15, .int .i8 a0_16, .int .i8 a0_17, .int .i8 a0_18, .int .i8 a0_19, .int .i8 a0_20, .int .i8 a0_21, .int .i8 a0_22, .int .i8 a0_23, .int .i8 a0_24, .int .i8 a0_25, .int .i8 a0_26, .int .i8 a0_27, .slice A0_28 l0_28.length c0_28]] (by rfl) rfl rfl (by (try simp only [List.map_toArray, List.map_cons, List.map_nil]); first | done | rfl | (simp only [List.length_drop, List.length_take]; rfl)) ?_
              with_reducible refine (laws_toFace.calls a0_0 a0_1 a0_2 a0_3 a0_4 a0_5 a0_6 a0_7 a0_8 a0_9 a0_10 a0_11 a0_12 a0_13 a0_14 a0_15 a0_16 a0_17 a0_18 a0_19 a0_20 a0_21 a0_22 a0_23 a0_24 a0_25 a0_26 a0_27 _ _ l0_28 t256 t257 t258 t259 t260 t261 t262 t263 t264 t265 t266 t267 t268 t269 t270 t271 t272 t273 t274 t275 t276 t277 t278 t279 t280 t281 t282 t283 t284 _ ?side1 ?side2 A26.out).mono ?_
              (case side1 => repeat (first | exact (Kd.C_below HR0_28.out HB.out) | (with_reducible refine Kd.C_alloc ?_ _) | (with_reducible refine Kd.C_drewN ?_ _) | (with_reducible refine Kd.C_drew ?_)))
              (case side2 => exact HC0_28.out)
              rintro e w30 ⟨v285, rfl, ho0, hb⟩
              refine ⟨_, rfl, ?_⟩
              have n0_ := Aside0.mk (Kd.R_elder' (by (with_reducible repeat (first | apply Kd.R_alloc | apply Kd.R_drewN | apply Kd.R_drew)); exact HO_254028.out) (Kd.R_base ho0) hb)
              have n1_ := Aside0.mk (Kd.R_lower (Kd.R_new' ho0 (Kd.R_lt (by (with_reducible repeat (first | apply Kd.R_alloc | apply Kd.R_drewN | apply Kd.R_drew)); exact HO_254028.out))) (below_size (by repeat (first | (with_reducible first | exact HB.out | apply below_alloc | apply pw_below_drewN | apply below_drew1 | refine below_set ?_ GE187.out | refine below_set ?_ GE253.out) | exact HB.out))))
              have n2_ := Aside0.mk (blk_below (g := gb187) (o := .cells #[.int .i8 a0_0, .int .i8 a0_1, .int .i8 a0_2, .int .i8 a0_3, .int .i8 a0_4, .int .i8 a0_5, .int .i8 a0_6, .int .i8 a0_7, .int .i8 a0_8, .int .i8 a0_9, .int .i8 a0_10, .int .i8 a0_11, .int .i8 a0_12, .int .i8 a0_13, .int .i8 a0_14, .int .i8 a0_15, .int .i8 a0_16, .int .i8 a0_17, .int .i8 a0_18, .int .i8 a0_19, .int .i8 a0_20, .int .i8 a0_21, .int .i8 a0_22, .int .i8 a0_23, .int .i8 a0_24, .int .i8 a0_25, .int .i8 a0_26, .int .i8 a0_27, .slice A0_28 l0_28.length c0_28] 26 (0, 0)) (by (with_reducible repeat (first | refine blk_drewN ?_ _ | refine blk_drew ?_ | refine blk_alloc ?_ _)); exact BK187.out) hb)
              have n3_ := Aside0.mk (blk_below (g := gb253) (o := .cells #[.int .i8 t222, .int .i8 t223, .int .i8 t224, .int .i8 t225, .int .i8 t226, .int .i8 t227, .int .i8 t228, .int .i8 t229, .int .i8 t230, .int .i8 t231, .int .i8 t232, .int .i8 t233, .int .i8 t234, .int .i8 t235, .int .i8 t236, .int .i8 t237, .int .i8 t238, .int .i8 t239, .int .i8 t240, .int .i8 t241, .int .i8 t242, .int .i8 t243, .int .i8 t244, .int .i8 t245, .int .i8 t246, .int .i8 t247, .int .i8 t248, .int .i8 t249, .slice Ao21 t250.length co21] 32 (0, 0)) (by (with_reducible repeat (first | refine blk_drewN ?_ _ | refine blk_drew ?_ | refine blk_alloc ?_ _)); exact BK253.out) hb)
              have n4_ := Aside0.mk (below_step (by repeat (first | (with_reducible first | exact HB.out | apply below_alloc | apply pw_below_drewN | apply below_drew1 | refine below_set ?_ GE187.out | refine below_set ?_ GE253.out) | exact HB.out)) hb)
              clear HO_254028
              clear BK187
              clear BK253
              clear HB
              have HO_254028 := n0_
              have HO286 := n1_
              have BK187 := n2_
              have BK253 := n3_
              have HB := n4_
              clear n0_ n1_ n2_ n3_ n4_
              (try clear hb)
              (try clear hb2)
              (try clear hk)
              (try clear hi)
              (try clear ho0)
              obtain ⟨Ao31, co31, eo31⟩ := Kd.R_slice HO286.out
              (first | subst eo31 | (injection eo31 with f1_ f2_ f3_; have f4_ := f1_.symm; have f5_ := f3_.symm; clear f1_ f2_ f3_; subst f4_; subst f5_))
              refine hK.out _ _ ⟨BK253.out, BK187.out⟩ (fun hHeld => ?_)
              clear hK K
              refine norm_ (a' := ?_) ?_ ?_
              rotate_left
              · show Act.put _ (some 44) _ = _
                simp only [Act.put, List.setIfInBounds_toArray, List.set_cons_zero, List.set_cons_succ, i64_w, i32_w, u8_w_]
                rfl
              refine one_ (i := 3) (N := some 45) #[true, true, true, true, false] rfl rfl (by kernel_rfl) (by decide) (fun K hK => ?_)
              refine goes_ Tryd.func22 (by kernel_rfl) rfl #[.agg #[.int .i8 t222, .int .i8 t223, .int .i8 t224, .int .i8 t225, .int .i8 t226, .int .i8 t227, .int .i8 t228, .int .i8 t229, .int .i8 t230, .int .i8 t231, .int .i8 t232, .int .i8 t233, .int .i8 t234, .int .i8 t235, .int .i8 t236, .int .i8 t237, .int .i8 t238, .int .i8 t239, .int .i8 t240, .int .i8 t241, .int .i8 t242, .int .i8 t243, .int .i8 t244, .int .i8 t245, .int .i8 t246, .int .i8 t247, .int .i8 t248, .int .i8 t249, .slice Ao21 t250.length co21], .agg #[.int .i8 t256, .int .i8 t257, .int .i8 t258, .int .i8 t259, .int .i8 t260, .int .i8 t261, .int .i8 t262, .int .i8 t263, .int .i8 t264, .int .i8 t265, .int .i8 t266, .int .i8 t267, .int .i8 t268, .int .i8 t269, .int .i8 t270, .int .i8 t271, .int .i8 t272, .int .i8 t273, .int .i8 t274, .int .i8 t275, .int .i8 t276, .int .i8 t277, .int .i8 t278, .int .i8 t279, .int .i8 t280, .int .i8 t281, .int .i8 t282, .int .i8 t283, .slice Ao31 t284.length co31]] (by rfl) rfl rfl (by (try simp only [List.map_toArray, List.map_cons, List.map_nil]); first | done | rfl | (simp only [List.length_drop, List.length_take]; rfl)) ?_
              with_reducible refine (laws_eqFace.calls kj12 t222 t223 t224 t225 t226 t227 t228 t229 t230 t231 t232 t233 t234 t235 t236 t237 t238 t239 t240 t241 t242 t243 t244 t245 t246 t247 t248 t249 _ _ t250 t256 t257 t258 t259 t260 t261 t262 t263 t264 t265 t266 t267 t268 t269 t270 t271 t272 t273 t274 t275 t276 t277 t278 t279 t280 t281 t282 t283 _ _ t284 true _ ?side1 ?side2 ?side3 ?side4 A27.out).mono ?_
              (case side1 => repeat (first | exact (Kd.R_reads' HO_254028.out).2.2 | (with_reducible refine Kd.C_alloc ?_ _) | (with_reducible refine Kd.C_drewN ?_ _) | (with_reducible refine Kd.C_drew ?_)))
              (case side2 => exact (Kd.R_reads' HO_254028.out).2.1)
              (case side3 => repeat (first | exact (Kd.R_reads' HO286.out).2.2 | (with_reducible refine Kd.C_alloc ?_ _) | (with_reducible refine Kd.C_drewN ?_ _) | (with_reducible refine Kd.C_drew ?_)))
              (case side4 => exact (Kd.R_reads' HO286.out).2.1)
              rintro e w32 ⟨rfl, hb⟩
              refine ⟨_, rfl, ?_⟩
              have n0_ := Aside0.mk (Kd.R_below (by (with_reducible repeat (first | apply Kd.R_alloc | apply Kd.R_drewN | apply Kd.R_drew)); exact HO_254028.out) hb)
              have n1_ := Aside0.mk (Kd.R_below (by (with_reducible repeat (first | apply Kd.R_alloc | apply Kd.R_drewN | apply Kd.R_drew)); exact HO286.out) hb)
              have n2_ := Aside0.mk (blk_below (g := gb187) (o := .cells #[.int .i8 a0_0, .int .i8 a0_1, .int .i8 a0_2, .int .i8 a0_3, .int .i8 a0_4, .int .i8 a0_5, .int .i8 a0_6, .int .i8 a0_7, .int .i8 a0_8, .int .i8 a0_9, .int .i8 a0_10, .int .i8 a0_11, .int .i8 a0_12, .int .i8 a0_13, .int .i8 a0_14, .int .i8 a0_15, .int .i8 a0_16, .int .i8 a0_17, .int .i8 a0_18, .int .i8 a0_19, .int .i8 a0_20, .int .i8 a0_21, .int .i8 a0_22, .int .i8 a0_23, .int .i8 a0_24, .int .i8 a0_25, .int .i8 a0_26, .int .i8 a0_27, .slice A0_28 l0_28.length c0_28] 26 (0, 0)) (by (with_reducible repeat (first | refine blk_drewN ?_ _ | refine blk_drew ?_ | refine blk_alloc ?_ _)); exact BK187.out) hb)
              have n3_ := Aside0.mk (blk_below (g := gb253) (o := .cells #[.int .i8 t222, .int .i8 t223, .int .i8 t224, .int .i8 t225, .int .i8 t226, .int .i8 t227, .int .i8 t228, .int .i8 t229, .int .i8 t230, .int .i8 t231, .int .i8 t232, .int .i8 t233, .int .i8 t234, .int .i8 t235, .int .i8 t236, .int .i8 t237, .int .i8 t238, .int .i8 t239, .int .i8 t240, .int .i8 t241, .int .i8 t242, .int .i8 t243, .int .i8 t244, .int .i8 t245, .int .i8 t246, .int .i8 t247, .int .i8 t248, .int .i8 t249, .slice Ao21 t250.length co21] 32 (0, 0)) (by (with_reducible repeat (first | refine blk_drewN ?_ _ | refine blk_drew ?_ | refine blk_alloc ?_ _)); exact BK253.out) hb)
              have n4_ := Aside0.mk (below_step (by repeat (first | (with_reducible first | exact HB.out | apply below_alloc | apply pw_below_drewN | apply below_drew1 | refine below_set ?_ GE187.out | refine below_set ?_ GE253.out) | exact HB.out)) hb)
              clear HO_254028
              clear HO286
              clear BK187
              clear BK253
              clear HB
              have HO_254028 := n0_
              have HO286 := n1_
              have BK187 := n2_
              have BK253 := n3_
              have HB := n4_
              clear n0_ n1_ n2_ n3_ n4_
              (try clear hb)
              (try clear hb2)
              (try clear hk)
              (try clear hi)
              refine hK.out _ _ ⟨BK253.out, BK187.out⟩ (fun hHeld => ?_)
              clear hK K
              refine norm_ (a' := ?_) ?_ ?_
              rotate_left
              · show Act.put _ (some 45) _ = _
                simp only [Act.put, List.setIfInBounds_toArray, List.set_cons_zero, List.set_cons_succ, i64_w, i32_w, u8_w_]
                rfl
              refine pure_ (i := 4) (N := some 46) (v := ?_) (a' := ?_) #[true, true, true, true, true] rfl rfl (by kernel_rfl) (fun _ _ _ h => h) (Or.inl ⟨by rfl, ?_⟩) ?_ ?_
              rotate_left
              · intro w'
                go_simp
                with_reducible rfl
              rotate_left
              · simp only [Act.put, List.setIfInBounds_toArray, List.set_cons_zero, List.set_cons_succ, i64_w, i32_w, u8_w_]
                rfl
              refine done_ (by kernel_rfl) ?_
              try go_wp2
              go_ret
              exact ⟨by first | rfl | (simp [errW_none, errW_some] <;> rfl) | (simp [*, errW_none, errW_some] <;> rfl), by repeat (first | (with_reducible first | exact HB.out | apply below_alloc | apply pw_below_drewN | apply below_drew1 | refine below_set ?_ GE187.out | refine below_set ?_ GE253.out) | exact HB.out)⟩
            · replace c28 := Bool.eq_false_iff.mpr c28
              subst c28
              have H1 : (some false) = some r := by rw [if_neg (show ¬ (false = true) by decide)] at H; exact H
              clear H
              have H := H1
              clear H1
              obtain rfl := Option.some.inj H
              try go_wp2
              have n0_ := Aside0.mk (Kd.R_drew HO_254028.out)
              have n1_ := Aside0.mk (blk_drew BK187.out)
              have n2_ := Aside0.mk (blk_drew BK253.out)
              have n3_ := Aside0.mk (below_drew1 HB.out)
              clear HO_254028
              clear BK187
              clear BK253
              clear HB
              have HO_254028 := n0_
              have BK187 := n1_
              have BK253 := n2_
              have HB := n3_
              clear n0_ n1_ n2_ n3_
              refine start_ (n := 5) (S := fun w' => w'.heap[gb253]? = some (.cells #[.int .i8 t222, .int .i8 t223, .int .i8 t224, .int .i8 t225, .int .i8 t226, .int .i8 t227, .int .i8 t228, .int .i8 t229, .int .i8 t230, .int .i8 t231, .int .i8 t232, .int .i8 t233, .int .i8 t234, .int .i8 t235, .int .i8 t236, .int .i8 t237, .int .i8 t238, .int .i8 t239, .int .i8 t240, .int .i8 t241, .int .i8 t242, .int .i8 t243, .int .i8 t244, .int .i8 t245, .int .i8 t246, .int .i8 t247, .int .i8 t248, .int .i8 t249, .slice Ao21 t250.length co21] 32 (0, 0)) ∧ w'.heap[gb187]? = some (.cells #[.int .i8 a0_0, .int .i8 a0_1, .int .i8 a0_2, .int .i8 a0_3, .int .i8 a0_4, .int .i8 a0_5, .int .i8 a0_6, .int .i8 a0_7, .int .i8 a0_8, .int .i8 a0_9, .int .i8 a0_10, .int .i8 a0_11, .int .i8 a0_12, .int .i8 a0_13, .int .i8 a0_14, .int .i8 a0_15, .int .i8 a0_16, .int .i8 a0_17, .int .i8 a0_18, .int .i8 a0_19, .int .i8 a0_20, .int .i8 a0_21, .int .i8 a0_22, .int .i8 a0_23, .int .i8 a0_24, .int .i8 a0_25, .int .i8 a0_26, .int .i8 a0_27, .slice A0_28 l0_28.length c0_28] 26 (0, 0))) (ds := []) #[false, false, false, false, false] (by kernel_rfl) rfl rfl ⟨BK253.out, BK187.out⟩ (fun hHeld => ?_)
              generalize wc.drew = w33 at HO_254028 BK187 BK253 HB hHeld ⊢
              refine take_ (i := 0) (N := some 42) (v := ?_) (a' := ?_) #[true, false, false, false, false] rfl rfl (by kernel_rfl) (fun _ _ _ h => h) (Or.inl ⟨by rfl, ?_⟩) hHeld ?_ ?_
              rotate_left
              · rintro w' ⟨s0, s1⟩
                refine exec_load_partx_ 32 (.tmp 8) _ 0 [] [.int .i8 t222, .int .i8 t223, .int .i8 t224, .int .i8 t225, .int .i8 t226, .int .i8 t227, .int .i8 t228, .int .i8 t229, .int .i8 t230, .int .i8 t231, .int .i8 t232, .int .i8 t233, .int .i8 t234, .int .i8 t235, .int .i8 t236, .int .i8 t237, .int .i8 t238, .int .i8 t239, .int .i8 t240, .int .i8 t241, .int .i8 t242, .int .i8 t243, .int .i8 t244, .int .i8 t245, .int .i8 t246, .int .i8 t247, .int .i8 t248, .int .i8 t249, .slice Ao21 t250.length co21] [] rfl s0 ?_ ?_ Tryd.underlying32 rfl (by exact (show (Tryd.prog.info? 32).map (·.size) = some 29 by kernel_rfl))
                · rfl
                · rfl
              rotate_left
              · simp only [Act.put, List.setIfInBounds_toArray, List.set_cons_zero, List.set_cons_succ, i64_w, i32_w, u8_w_]
                rfl
              refine take_ (i := 1) (N := some 43) (v := ?_) (a' := ?_) #[true, true, false, false, false] rfl rfl (by kernel_rfl) (fun _ _ _ h => h) (Or.inl ⟨by rfl, ?_⟩) hHeld ?_ ?_
              rotate_left
              · rintro w' ⟨s0, s1⟩
                refine exec_load_partx_ 26 (.tmp 2) _ 0 [] [.int .i8 a0_0, .int .i8 a0_1, .int .i8 a0_2, .int .i8 a0_3, .int .i8 a0_4, .int .i8 a0_5, .int .i8 a0_6, .int .i8 a0_7, .int .i8 a0_8, .int .i8 a0_9, .int .i8 a0_10, .int .i8 a0_11, .int .i8 a0_12, .int .i8 a0_13, .int .i8 a0_14, .int .i8 a0_15, .int .i8 a0_16, .int .i8 a0_17, .int .i8 a0_18, .int .i8 a0_19, .int .i8 a0_20, .int .i8 a0_21, .int .i8 a0_22, .int .i8 a0_23, .int .i8 a0_24, .int .i8 a0_25, .int .i8 a0_26, .int .i8 a0_27, .slice A0_28 l0_28.length c0_28] [] rfl s1 ?_ ?_ Tryd.underlying26 rfl (by exact (show (Tryd.prog.info? 26).map (·.size) = some 29 by kernel_rfl))
                · rfl
                · rfl
              rotate_left
              · simp only [Act.put, List.setIfInBounds_toArray, List.set_cons_zero, List.set_cons_succ, i64_w, i32_w, u8_w_]
                rfl
              refine one_ (i := 2) (N := some 44) #[true, true, true, false, false] rfl rfl (by kernel_rfl) (by decide) (fun K hK => ?_)
              refine goes_ Tryd.func20 (by kernel_rfl) rfl #[.agg #[.int .i8 a0_0, .int .i8 a0_1, .int .i8 a0_2, .int .i8 a0_3, .int .i8 a0_4, .int .i8 a0_5, .int .i8 a0_6, .int .i8 a0_7, .int .i8 a0_8, .int .i8 a0_9, .int .i8 a0_10, .int .i8 a0_11, .int .i8 a0_12, .int .i8 a0_13, .int .i8 a0_14, .int .i8 a0_15, .int .i8 a0_16, .int .i8 a0_17, .int .i8 a0_18, .int .i8 a0_19, .int .i8 a0_20, .int .i8 a0_21, .int .i8 a0_22, .int .i8 a0_23, .int .i8 a0_24, .int .i8 a0_25, .int .i8 a0_26, .int .i8 a0_27, .slice A0_28 l0_28.length c0_28]] (by rfl) rfl rfl (by (try simp only [List.map_toArray, List.map_cons, List.map_nil]); first | done | rfl | (simp only [List.length_drop, List.length_take]; rfl)) ?_
              with_reducible refine (laws_toFace.calls a0_0 a0_1 a0_2 a0_3 a0_4 a0_5 a0_6 a0_7 a0_8 a0_9 a0_10 a0_11 a0_12 a0_13 a0_14 a0_15 a0_16 a0_17 a0_18 a0_19 a0_20 a0_21 a0_22 a0_23 a0_24 a0_25 a0_26 a0_27 _ _ l0_28 t256 t257 t258 t259 t260 t261 t262 t263 t264 t265 t266 t267 t268 t269 t270 t271 t272 t273 t274 t275 t276 t277 t278 t279 t280 t281 t282 t283 t284 _ ?side1 ?side2 A26.out).mono ?_
              (case side1 => repeat (first | exact (Kd.C_below HR0_28.out HB.out) | (with_reducible refine Kd.C_alloc ?_ _) | (with_reducible refine Kd.C_drewN ?_ _) | (with_reducible refine Kd.C_drew ?_)))
              (case side2 => exact HC0_28.out)
              rintro e w34 ⟨v285, rfl, ho0, hb⟩
              refine ⟨_, rfl, ?_⟩
              have n0_ := Aside0.mk (Kd.R_elder' (by (with_reducible repeat (first | apply Kd.R_alloc | apply Kd.R_drewN | apply Kd.R_drew)); exact HO_254028.out) (Kd.R_base ho0) hb)
              have n1_ := Aside0.mk (Kd.R_lower (Kd.R_new' ho0 (Kd.R_lt (by (with_reducible repeat (first | apply Kd.R_alloc | apply Kd.R_drewN | apply Kd.R_drew)); exact HO_254028.out))) (below_size (by repeat (first | (with_reducible first | exact HB.out | apply below_alloc | apply pw_below_drewN | apply below_drew1 | refine below_set ?_ GE187.out | refine below_set ?_ GE253.out) | exact HB.out))))
              have n2_ := Aside0.mk (blk_below (g := gb187) (o := .cells #[.int .i8 a0_0, .int .i8 a0_1, .int .i8 a0_2, .int .i8 a0_3, .int .i8 a0_4, .int .i8 a0_5, .int .i8 a0_6, .int .i8 a0_7, .int .i8 a0_8, .int .i8 a0_9, .int .i8 a0_10, .int .i8 a0_11, .int .i8 a0_12, .int .i8 a0_13, .int .i8 a0_14, .int .i8 a0_15, .int .i8 a0_16, .int .i8 a0_17, .int .i8 a0_18, .int .i8 a0_19, .int .i8 a0_20, .int .i8 a0_21, .int .i8 a0_22, .int .i8 a0_23, .int .i8 a0_24, .int .i8 a0_25, .int .i8 a0_26, .int .i8 a0_27, .slice A0_28 l0_28.length c0_28] 26 (0, 0)) (by (with_reducible repeat (first | refine blk_drewN ?_ _ | refine blk_drew ?_ | refine blk_alloc ?_ _)); exact BK187.out) hb)
              have n3_ := Aside0.mk (blk_below (g := gb253) (o := .cells #[.int .i8 t222, .int .i8 t223, .int .i8 t224, .int .i8 t225, .int .i8 t226, .int .i8 t227, .int .i8 t228, .int .i8 t229, .int .i8 t230, .int .i8 t231, .int .i8 t232, .int .i8 t233, .int .i8 t234, .int .i8 t235, .int .i8 t236, .int .i8 t237, .int .i8 t238, .int .i8 t239, .int .i8 t240, .int .i8 t241, .int .i8 t242, .int .i8 t243, .int .i8 t244, .int .i8 t245, .int .i8 t246, .int .i8 t247, .int .i8 t248, .int .i8 t249, .slice Ao21 t250.length co21] 32 (0, 0)) (by (with_reducible repeat (first | refine blk_drewN ?_ _ | refine blk_drew ?_ | refine blk_alloc ?_ _)); exact BK253.out) hb)
              have n4_ := Aside0.mk (below_step (by repeat (first | (with_reducible first | exact HB.out | apply below_alloc | apply pw_below_drewN | apply below_drew1 | refine below_set ?_ GE187.out | refine below_set ?_ GE253.out) | exact HB.out)) hb)
              clear HO_254028
              clear BK187
              clear BK253
              clear HB
              have HO_254028 := n0_
              have HO286 := n1_
              have BK187 := n2_
              have BK253 := n3_
              have HB := n4_
              clear n0_ n1_ n2_ n3_ n4_
              (try clear hb)
              (try clear hb2)
              (try clear hk)
              (try clear hi)
              (try clear ho0)
              obtain ⟨Ao35, co35, eo35⟩ := Kd.R_slice HO286.out
              (first | subst eo35 | (injection eo35 with f1_ f2_ f3_; have f4_ := f1_.symm; have f5_ := f3_.symm; clear f1_ f2_ f3_; subst f4_; subst f5_))
              refine hK.out _ _ ⟨BK253.out, BK187.out⟩ (fun hHeld => ?_)
              clear hK K
              refine norm_ (a' := ?_) ?_ ?_
              rotate_left
              · show Act.put _ (some 44) _ = _
                simp only [Act.put, List.setIfInBounds_toArray, List.set_cons_zero, List.set_cons_succ, i64_w, i32_w, u8_w_]
                rfl
              refine one_ (i := 3) (N := some 45) #[true, true, true, true, false] rfl rfl (by kernel_rfl) (by decide) (fun K hK => ?_)
              refine goes_ Tryd.func22 (by kernel_rfl) rfl #[.agg #[.int .i8 t222, .int .i8 t223, .int .i8 t224, .int .i8 t225, .int .i8 t226, .int .i8 t227, .int .i8 t228, .int .i8 t229, .int .i8 t230, .int .i8 t231, .int .i8 t232, .int .i8 t233, .int .i8 t234, .int .i8 t235, .int .i8 t236, .int .i8 t237, .int .i8 t238, .int .i8 t239, .int .i8 t240, .int .i8 t241, .int .i8 t242, .int .i8 t243, .int .i8 t244, .int .i8 t245, .int .i8 t246, .int .i8 t247, .int .i8 t248, .int .i8 t249, .slice Ao21 t250.length co21], .agg #[.int .i8 t256, .int .i8 t257, .int .i8 t258, .int .i8 t259, .int .i8 t260, .int .i8 t261, .int .i8 t262, .int .i8 t263, .int .i8 t264, .int .i8 t265, .int .i8 t266, .int .i8 t267, .int .i8 t268, .int .i8 t269, .int .i8 t270, .int .i8 t271, .int .i8 t272, .int .i8 t273, .int .i8 t274, .int .i8 t275, .int .i8 t276, .int .i8 t277, .int .i8 t278, .int .i8 t279, .int .i8 t280, .int .i8 t281, .int .i8 t282, .int .i8 t283, .slice Ao35 t284.length co35]] (by rfl) rfl rfl (by (try simp only [List.map_toArray, List.map_cons, List.map_nil]); first | done | rfl | (simp only [List.length_drop, List.length_take]; rfl)) ?_
              with_reducible refine (laws_eqFace.calls kj12 t222 t223 t224 t225 t226 t227 t228 t229 t230 t231 t232 t233 t234 t235 t236 t237 t238 t239 t240 t241 t242 t243 t244 t245 t246 t247 t248 t249 _ _ t250 t256 t257 t258 t259 t260 t261 t262 t263 t264 t265 t266 t267 t268 t269 t270 t271 t272 t273 t274 t275 t276 t277 t278 t279 t280 t281 t282 t283 _ _ t284 false _ ?side1 ?side2 ?side3 ?side4 A27.out).mono ?_
              (case side1 => repeat (first | exact (Kd.R_reads' HO_254028.out).2.2 | (with_reducible refine Kd.C_alloc ?_ _) | (with_reducible refine Kd.C_drewN ?_ _) | (with_reducible refine Kd.C_drew ?_)))
              (case side2 => exact (Kd.R_reads' HO_254028.out).2.1)
              (case side3 => repeat (first | exact (Kd.R_reads' HO286.out).2.2 | (with_reducible refine Kd.C_alloc ?_ _) | (with_reducible refine Kd.C_drewN ?_ _) | (with_reducible refine Kd.C_drew ?_)))
              (case side4 => exact (Kd.R_reads' HO286.out).2.1)
              rintro e w36 ⟨rfl, hb⟩
              refine ⟨_, rfl, ?_⟩
              have n0_ := Aside0.mk (Kd.R_below (by (with_reducible repeat (first | apply Kd.R_alloc | apply Kd.R_drewN | apply Kd.R_drew)); exact HO_254028.out) hb)
              have n1_ := Aside0.mk (Kd.R_below (by (with_reducible repeat (first | apply Kd.R_alloc | apply Kd.R_drewN | apply Kd.R_drew)); exact HO286.out) hb)
              have n2_ := Aside0.mk (blk_below (g := gb187) (o := .cells #[.int .i8 a0_0, .int .i8 a0_1, .int .i8 a0_2, .int .i8 a0_3, .int .i8 a0_4, .int .i8 a0_5, .int .i8 a0_6, .int .i8 a0_7, .int .i8 a0_8, .int .i8 a0_9, .int .i8 a0_10, .int .i8 a0_11, .int .i8 a0_12, .int .i8 a0_13, .int .i8 a0_14, .int .i8 a0_15, .int .i8 a0_16, .int .i8 a0_17, .int .i8 a0_18, .int .i8 a0_19, .int .i8 a0_20, .int .i8 a0_21, .int .i8 a0_22, .int .i8 a0_23, .int .i8 a0_24, .int .i8 a0_25, .int .i8 a0_26, .int .i8 a0_27, .slice A0_28 l0_28.length c0_28] 26 (0, 0)) (by (with_reducible repeat (first | refine blk_drewN ?_ _ | refine blk_drew ?_ | refine blk_alloc ?_ _)); exact BK187.out) hb)
              have n3_ := Aside0.mk (blk_below (g := gb253) (o := .cells #[.int .i8 t222, .int .i8 t223, .int .i8 t224, .int .i8 t225, .int .i8 t226, .int .i8 t227, .int .i8 t228, .int .i8 t229, .int .i8 t230, .int .i8 t231, .int .i8 t232, .int .i8 t233, .int .i8 t234, .int .i8 t235, .int .i8 t236, .int .i8 t237, .int .i8 t238, .int .i8 t239, .int .i8 t240, .int .i8 t241, .int .i8 t242, .int .i8 t243, .int .i8 t244, .int .i8 t245, .int .i8 t246, .int .i8 t247, .int .i8 t248, .int .i8 t249, .slice Ao21 t250.length co21] 32 (0, 0)) (by (with_reducible repeat (first | refine blk_drewN ?_ _ | refine blk_drew ?_ | refine blk_alloc ?_ _)); exact BK253.out) hb)
              have n4_ := Aside0.mk (below_step (by repeat (first | (with_reducible first | exact HB.out | apply below_alloc | apply pw_below_drewN | apply below_drew1 | refine below_set ?_ GE187.out | refine below_set ?_ GE253.out) | exact HB.out)) hb)
              clear HO_254028
              clear HO286
              clear BK187
              clear BK253
              clear HB
              have HO_254028 := n0_
              have HO286 := n1_
              have BK187 := n2_
              have BK253 := n3_
              have HB := n4_
              clear n0_ n1_ n2_ n3_ n4_
              (try clear hb)
              (try clear hb2)
              (try clear hk)
              (try clear hi)
              refine hK.out _ _ ⟨BK253.out, BK187.out⟩ (fun hHeld => ?_)
              clear hK K
              refine norm_ (a' := ?_) ?_ ?_
              rotate_left
              · show Act.put _ (some 45) _ = _
                simp only [Act.put, List.setIfInBounds_toArray, List.set_cons_zero, List.set_cons_succ, i64_w, i32_w, u8_w_]
                rfl
              refine pure_ (i := 4) (N := some 46) (v := ?_) (a' := ?_) #[true, true, true, true, true] rfl rfl (by kernel_rfl) (fun _ _ _ h => h) (Or.inl ⟨by rfl, ?_⟩) ?_ ?_
              rotate_left
              · intro w'
                go_simp
                with_reducible rfl
              rotate_left
              · simp only [Act.put, List.setIfInBounds_toArray, List.set_cons_zero, List.set_cons_succ, i64_w, i32_w, u8_w_]
                rfl
              refine done_ (by kernel_rfl) ?_
              try go_wp2
              go_ret
              exact ⟨by first | rfl | (simp [errW_none, errW_some] <;> rfl) | (simp [*, errW_none, errW_some] <;> rfl), by repeat (first | (with_reducible first | exact HB.out | apply below_alloc | apply pw_below_drewN | apply below_drew1 | refine below_set ?_ GE187.out | refine below_set ?_ GE253.out) | exact HB.out)⟩

end Go.Proofs.YticjkfacdmmopaaDoor.Q


namespace Go.Proofs.YticjkfacdmmopaaDoor.Ext
end Go.Proofs.YticjkfacdmmopaaDoor.Ext
namespace Go.Proofs.YticjkfacdmmopaaDoor.Q
open Go.Proofs.YticjkfacdmmopaaDoor.Ext
open Go.RowKit Go.Proofs.YticjkfacdmmopaaDoorW.PrintWords Go.Proofs.YticjkfacdmmopaaDoorW.PrintLast Go.Proofs.YticjkfacdmmopaaDoorW.PrintMore
attribute [local go_sem] max2_int min2_int max_two min_two max_three min_three max_four min_four   -- for this text's walks alone
set_option linter.unusedVariables false
set_option linter.unusedSimpArgs false

/-! ### laws_FnExactLineWide: function 4 -/
end Go.Proofs.YticjkfacdmmopaaDoor.Q


namespace Go.Proofs.YticjkfacdmmopaaDoor.Pure
open Go.RowKit Go.Proofs.YticjkfacdmmopaaDoor.Ext Go.Proofs.YticjkfacdmmopaaDoor.Q Go.Proofs.YticjkfacdmmopaaDoor.Txt Go.Proofs.YticjkfacdmmopaaDoor.Face Go.Proofs.YticjkfacdmmopaaDoorW.PrintWords Go.Proofs.YticjkfacdmmopaaDoorW.PrintLast Go.Proofs.YticjkfacdmmopaaDoorW.PrintMore
set_option linter.unusedVariables false
set_option linter.unusedSimpArgs false
set_option maxRecDepth 100000
theorem contains32 (l : List UInt8) : Lib.contains l [32] = !(l.all fun b => b != 32) := by
  induction l with
  | nil => rfl
  | cons b l ih =>
    unfold Lib.contains at ih ⊢
    rw [List.all_cons]
    by_cases hb : b = 32
    · subst hb
      rw [index_cons_self]
      rfl
    · have hb' : (b != 32) = true := by simpa using hb
      rw [hb', Bool.true_and, ← ih]
      by_cases h : 0 ≤ Lib.index l [32]
      · obtain ⟨i, hi⟩ := Int.eq_ofNat_of_zero_le h
        rw [index_cons_hit hb hi, hi]
        rw [Bool.eq_iff_iff]; simp; omega
      · have h1 : Lib.index l [32] = -1 := by have := Lib.index_ge l [32]; omega
        rw [index_cons_miss hb h1, h1]
theorem isWord_eq (s : ByteArray) {k : Nat} (hk : 60 < k) : impl_isWord.f k s = some (txt s.data.toList && wordB s.data.toList) := by
  unfold impl_isWord.f
  rw [valid_eq s (.inr hk), Option.bind_some]
  cases ht : txt s.data.toList
  · simp
  · have hs := txt_size ht
    rw [if_pos rfl, toList_data, Bool.true_and]
    unfold wordB
    by_cases h : s.data.toList = []
    · rw [if_pos h, h]; rfl
    · rw [if_neg h]
      unfold strings_Contains.f
      rw [if_pos (by omega), Option.bind_some, show (⟨#[32]⟩ : ByteArray).data.toList = [32] from rfl, contains32, Bool.not_not, show (s.data.toList != []) = true by simpa using h, Bool.true_and]
theorem lts_iff {t : List UInt8} (h : txt t = true) : (t.all fun b => decide (65 ≤ b.toNat) && decide (b.toNat ≤ 90)) = t.all fun b => b != 32 := by
  rw [Bool.eq_iff_iff, List.all_eq_true, List.all_eq_true]
  constructor
  · intro h1 b hb
    have := h1 b hb
    simp only [Bool.and_eq_true, decide_eq_true_eq] at this
    simpa using letter_ok this
  · intro h1 b hb
    have h2 := h1 b hb
    have := (txt_ok h b hb).resolve_left (by simpa using h2)
    simpa using this
theorem spec_word_eq (s : ByteArray) (h : txt s.data.toList = true) {k : Nat} (hk : 60 < k) : spec_l01Word.f k s = some (wordB s.data.toList) := by
  have hs := txt_size h
  unfold spec_l01Word.f
  have h1 := word_l0 s hs s.size k 0 (by omega) (by omega)
  rw [show ((0 : Nat) : Int) = 0 from rfl] at h1
  rw [h1, List.drop_zero, lts_iff h, Bool.and_comm]
  unfold wordB
  congr 2
  rw [← data_length]
  cases s.data.toList <;> simp
theorem impl_WordWide_eq {L : List Int} {P : List Pr} (hl : L.length = 28) (hr : rngB L P = true) (s : ByteArray) {k : Nat} (hk : 140 < k) : impl_WordWide.f k (rd L 0) (rd L 1) (rd L 2) (rd L 3) (rd L 4) (rd L 5) (rd L 6) (rd L 7) (rd L 8) (rd L 9) (rd L 10) (rd L 11) (rd L 12) (rd L 13) (rd L 14) (rd L 15) (rd L 16) (rd L 17) (rd L 18) (rd L 19) (rd L 20) (rd L 21) (rd L 22) (rd L 23) (rd L 24) (rd L 25) (rd L 26) (rd L 27) P s = some (wordWideC L P s) := by
  unfold impl_WordWide.f wordWideC
  rw [validFace_eq hl hr, Option.bind_some]
  cases hf : faceB L P
  · rw [if_neg (by simp)]; rfl
  · rw [if_pos rfl, isWord_eq s (by omega), Option.bind_some, Bool.true_and]
    cases hw : (txt s.data.toList && wordB s.data.toList)
    · rw [if_neg (by simp)]; rfl
    · rw [Bool.and_eq_true] at hw
      rw [if_pos rfl, fwide_eq (faceOk hl hr hf) s (txt_size hw.1) (txt_ok hw.1) hk]
      rfl
theorem spec_WordWide_eq {L : List Int} {P : List Pr} (hl : L.length = 28) (hr : rngB L P = true) (s : ByteArray) (hs : s.size ≤ 1048576) {k : Nat} (hk : 1048577 < k) : spec_WordWide.f k (rd L 0) (rd L 1) (rd L 2) (rd L 3) (rd L 4) (rd L 5) (rd L 6) (rd L 7) (rd L 8) (rd L 9) (rd L 10) (rd L 11) (rd L 12) (rd L 13) (rd L 14) (rd L 15) (rd L 16) (rd L 17) (rd L 18) (rd L 19) (rd L 20) (rd L 21) (rd L 22) (rd L 23) (rd L 24) (rd L 25) (rd L 26) (rd L 27) P s = some (wordWideC L P s) := by
  unfold spec_WordWide.f wordWideC
  rw [l01Face_eq hl hr, Option.bind_some]
  cases hf : faceB L P
  · rw [if_neg (by simp)]; rfl
  · rw [if_pos rfl, text_eq s (by omega) (by omega), Option.bind_some, Bool.true_and]
    cases ht : txt s.data.toList
    · rw [if_neg (by simp)]; rfl
    · rw [if_pos rfl, spec_word_eq s ht (by omega), Option.bind_some, Bool.true_and]
      cases hw : wordB s.data.toList
      · rw [if_neg (by simp)]; rfl
      · have hlts : lts s.data.toList := by
          intro b hb
          unfold wordB at hw
          rw [Bool.and_eq_true] at hw
          exact (txt_ok ht b hb).resolve_left (by simpa using List.all_eq_true.1 hw.2 b hb)
        rw [if_pos rfl, swide_eq (faceOk hl hr hf) s (txt_size ht) hlts (by omega)]
        rfl
theorem wordWide_law (L : List Int) (hl : L.length = 28) (lp : List LP) (hlp : lp.length ≤ 9223372036854775807) (hr : rngB L (lp.map toP) = true) (s : ByteArray) : ∃ k, laws_FnExactWordWide.f k (rd L 0) (rd L 1) (rd L 2) (rd L 3) (rd L 4) (rd L 5) (rd L 6) (rd L 7) (rd L 8) (rd L 9) (rd L 10) (rd L 11) (rd L 12) (rd L 13) (rd L 14) (rd L 15) (rd L 16) (rd L 17) (rd L 18) (rd L 19) (rd L 20) (rd L 21) (rd L 22) (rd L 23) (rd L 24) (rd L 25) (rd L 26) (rd L 27) lp s = some true := by
  obtain ⟨K, hK⟩ : ∃ K, K = 2000000 := ⟨_, rfl⟩
  refine ⟨K + 1, ?_⟩
  unfold laws_FnExactWordWide.f
  by_cases h1 : s.size > 1048576
  · rw [if_pos (by omega)]
  rw [if_neg (by omega), szFace_eq L lp hlp, Option.bind_some]
  by_cases h2 : 1048576 < lp.length
  · rw [if_pos h2, if_pos (by omega)]
  rw [if_neg h2, if_neg (by omega)]
  simp only [toFace_eq L lp (by omega), Option.bind_some, spec_WordWide_eq hl hr s (by omega : s.size ≤ 1048576) (by omega : 1048577 < K + 1), impl_WordWide_eq hl hr s (by omega : 140 < K + 1), if_true, bne_self_eq_false, laws_FnExactWordWide.j0, Bool.false_eq_true, if_false, eqFace_self L _ (size_le (by omega : lp.length ≤ 1048576)) (by omega : 1048577 < K)]
end Go.Proofs.YticjkfacdmmopaaDoor.Pure


namespace Go.Proofs.YticjkfacdmmopaaDoor.Pure
open Go.RowKit Go.Proofs.YticjkfacdmmopaaDoor.Ext Go.Proofs.YticjkfacdmmopaaDoor.Q Go.Proofs.YticjkfacdmmopaaDoor.Txt Go.Proofs.YticjkfacdmmopaaDoor.Face Go.Proofs.YticjkfacdmmopaaDoorW.PrintWords Go.Proofs.YticjkfacdmmopaaDoorW.PrintLast Go.Proofs.YticjkfacdmmopaaDoorW.PrintMore
set_option maxRecDepth 100000
theorem faceV_all (L : List Int) (hl : L.length = 28) (A : Option Addr) (n c : Nat) : faceV L A n c = #[.int .i8 (rd L 0), .int .i8 (rd L 1), .int .i8 (rd L 2), .int .i8 (rd L 3), .int .i8 (rd L 4), .int .i8 (rd L 5), .int .i8 (rd L 6), .int .i8 (rd L 7), .int .i8 (rd L 8), .int .i8 (rd L 9), .int .i8 (rd L 10), .int .i8 (rd L 11), .int .i8 (rd L 12), .int .i8 (rd L 13), .int .i8 (rd L 14), .int .i8 (rd L 15), .int .i8 (rd L 16), .int .i8 (rd L 17), .int .i8 (rd L 18), .int .i8 (rd L 19), .int .i8 (rd L 20), .int .i8 (rd L 21), .int .i8 (rd L 22), .int .i8 (rd L 23), .int .i8 (rd L 24), .int .i8 (rd L 25), .int .i8 (rd L 26), .int .i8 (rd L 27), .slice A n c] := by
  have e : faceV [rd L 0, rd L 1, rd L 2, rd L 3, rd L 4, rd L 5, rd L 6, rd L 7, rd L 8, rd L 9, rd L 10, rd L 11, rd L 12, rd L 13, rd L 14, rd L 15, rd L 16, rd L 17, rd L 18, rd L 19, rd L 20, rd L 21, rd L 22, rd L 23, rd L 24, rd L 25, rd L 26, rd L 27] A n c = #[.int .i8 (rd L 0), .int .i8 (rd L 1), .int .i8 (rd L 2), .int .i8 (rd L 3), .int .i8 (rd L 4), .int .i8 (rd L 5), .int .i8 (rd L 6), .int .i8 (rd L 7), .int .i8 (rd L 8), .int .i8 (rd L 9), .int .i8 (rd L 10), .int .i8 (rd L 11), .int .i8 (rd L 12), .int .i8 (rd L 13), .int .i8 (rd L 14), .int .i8 (rd L 15), .int .i8 (rd L 16), .int .i8 (rd L 17), .int .i8 (rd L 18), .int .i8 (rd L 19), .int .i8 (rd L 20), .int .i8 (rd L 21), .int .i8 (rd L 22), .int .i8 (rd L 23), .int .i8 (rd L 24), .int .i8 (rd L 25), .int .i8 (rd L 26), .int .i8 (rd L 27), .slice A n c] := rfl
  rwa [all28 L hl] at e
theorem rng_of {L : List Int} {P : List LP} (hb : ∀ y ∈ L, -128 ≤ y ∧ y ≤ 127) (hp : ∀ p ∈ P, (0 ≤ p.f0 ∧ p.f0 ≤ 255) ∧ (0 ≤ p.f1 ∧ p.f1 ≤ 255) ∧ (-128 ≤ p.f2 ∧ p.f2 ≤ 127)) : rngB L (P.map toP) = true := by
  unfold rngB
  rw [Bool.and_eq_true, List.all_eq_true, List.all_eq_true]
  refine ⟨fun y hy => inB_iff.2 (hb y hy), fun p hq => ?_⟩
  rw [List.mem_map] at hq
  obtain ⟨q, hq, rfl⟩ := hq
  have h := hp q hq
  rw [Bool.and_eq_true, Bool.and_eq_true]
  exact ⟨⟨inB_iff.2 h.1, inB_iff.2 h.2.1⟩, inB_iff.2 h.2.2⟩
end Go.Proofs.YticjkfacdmmopaaDoor.Pure


namespace Go.Proofs.YticjkfacdmmopaaDoor.Pure
open Go.RowKit Go.Proofs.YticjkfacdmmopaaDoor.Ext Go.Proofs.YticjkfacdmmopaaDoor.Q Go.Proofs.YticjkfacdmmopaaDoor.Txt Go.Proofs.YticjkfacdmmopaaDoor.Face Go.Proofs.YticjkfacdmmopaaDoorW.PrintWords Go.Proofs.YticjkfacdmmopaaDoorW.PrintLast Go.Proofs.YticjkfacdmmopaaDoorW.PrintMore
set_option maxRecDepth 100000
theorem wordWide_walk (L : List Int) (hl : L.length = 28) (hb : ∀ y ∈ L, -128 ≤ y ∧ y ≤ 127) (A : Option Addr) (c : Nat) (P : List LP) (hc : P.length ≤ c) (hm : c ≤ maxLen) (hp : ∀ p ∈ P, (0 ≤ p.f0 ∧ p.f0 ≤ 255) ∧ (0 ≤ p.f1 ∧ p.f1 ≤ 255) ∧ (-128 ≤ p.f2 ∧ p.f2 ≤ 127)) (s : ByteArray) (w : World) (hr : Kd.C kLP w A P.length P) (hM : GlobM w) :
    Calls Tryd.prog 3 #[.agg (faceV L A P.length c), .string s] w fun e w' => e = .returned (.bool true) ∧ Below w.heap.size w w' := by
  obtain ⟨k, hk⟩ := wordWide_law L hl P (by unfold maxLen at hm; omega) (rng_of hb hp) s
  have h := laws_FnExactWordWide.calls k (rd L 0) (rd L 1) (rd L 2) (rd L 3) (rd L 4) (rd L 5) (rd L 6) (rd L 7) (rd L 8) (rd L 9) (rd L 10) (rd L 11) (rd L 12) (rd L 13) (rd L 14) (rd L 15) (rd L 16) (rd L 17) (rd L 18) (rd L 19) (rd L 20) (rd L 21) (rd L 22) (rd L 23) (rd L 24) (rd L 25) (rd L 26) (rd L 27) A c P s true w hr hc hM hk
  rw [faceV_all L hl A P.length c]
  exact h
end Go.Proofs.YticjkfacdmmopaaDoor.Pure

