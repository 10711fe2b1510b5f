/- Contracts and plain laws of functions of the given program; no conditions beside those in the theorems. -/
import Derived.Test.YticjkfacdmmopaaDoorC2PiecesFor
import Derived.Test.YticjkfacdmmopaaDoorC3PiecesFor
import Derived.Test.YticjkfacdmmopaaDoorC0PiecesFor
import Derived.Deep.MidRow
namespace Go.Proofs.YticjkfacdmmopaaDoor.Ext
end Go.Proofs.YticjkfacdmmopaaDoor.Ext
namespace Go.Proofs.YticjkfacdmmopaaDoor.Q
open Go.Proofs.YticjkfacdmmopaaDoor.Ext
open Go.RowKit Go.Proofs.YticjkfacdmmopaaDoorW.PrintWords Go.Proofs.YticjkfacdmmopaaDoorW.PrintLast Go.Proofs.YticjkfacdmmopaaDoorW.PrintMore
attribute [local go_sem] max2_int min2_int max_two min_two max_three min_three max_four min_four
set_option linter.unusedVariables false
set_option linter.unusedSimpArgs false
def laws_eqInt64S.l0 : Nat → List Int → List Int → Int → Option (Bool)
  | 0, _, _, _ => none
  | k + 1, x0, x1, x5 => if x5 < (x0.length : Int) then (if 0 ≤ x5 then (if x5 < (x1.length : Int) then (if (rd x0 x5) = (rd x1 x5) then (laws_eqInt64S.l0 k x0 x1 (wrap64 (x5 + 1))) else (some false)) else (none)) else (none)) else (some true)
def laws_eqInt64S.f (k : Nat) (l0 : List Int) (l1 : List Int) : Option (Bool) := if (l0.length : Int) = (l1.length : Int) then (laws_eqInt64S.l0 k l0 l1 0) else (some false)
theorem laws_eqInt64S.mono_l : ∀ k, (∀ y0 y1 y2, LeO (laws_eqInt64S.l0 k y0 y1 y2) (laws_eqInt64S.l0 (k + 1) y0 y1 y2))
  | 0 => fun _ _ _ r h => by simp [laws_eqInt64S.l0] at h
  | k + 1 => by
    have ih0 := laws_eqInt64S.mono_l k
    · intro y0 y1 y2
      unfold laws_eqInt64S.l0
      repeat' first
      | (with_reducible exact ih0 _ _ _)
      | (with_reducible exact LeO.refl _)
      | (with_reducible exact LeO.none _)
      | (with_reducible refine LeO.ite ?_ ?_)
      | (with_reducible refine LeO.bind ?_ (fun _ => ?_))
      | exact ih0 _ _ _
      | exact LeO.none _
      | refine LeO.ite ?_ ?_
      | refine LeO.bind ?_ (fun _ => ?_)
theorem laws_eqInt64S.mono : ∀ a0 a1 k, LeO (laws_eqInt64S.f k a0 a1) (laws_eqInt64S.f (k + 1) a0 a1) := by
  intro a0 a1 k
  have ih0 := laws_eqInt64S.mono_l k
  unfold laws_eqInt64S.f
  repeat' first
      | (with_reducible exact ih0 _ _ _)
      | (with_reducible exact LeO.refl _)
      | (with_reducible exact LeO.none _)
      | (with_reducible refine LeO.ite ?_ ?_)
      | (with_reducible refine LeO.bind ?_ (fun _ => ?_))
      | exact ih0 _ _ _
      | exact LeO.none _
      | refine LeO.ite ?_ ?_
      | refine LeO.bind ?_ (fun _ => ?_)
set_option maxHeartbeats 8000000 in
set_option maxRecDepth 100000 in
theorem laws_eqInt64S.calls (k : Nat) (A0 : Option Addr) (c0 : Nat) (l0 : List Int) (A1 : Option Addr) (c1 : Nat) (l1 : List Int) (r : Bool) (w : World) (hr0 : Kd.C (Kd.int .i64) w A0 l0.length l0) (hc0 : l0.length ≤ c0) (hr1 : Kd.C (Kd.int .i64) w A1 l1.length l1) (hc1 : l1.length ≤ c1) (h : laws_eqInt64S.f k l0 l1 = some r) :
    Calls Tryd.prog 29 #[.slice A0 l0.length c0, .slice A1 l1.length c1] w fun e w' => e = .returned (.bool r) ∧ Drawn0 w w' := by
  have HR0 := Aside0.mk hr0
  have HC0 := Aside0.mk hc0
  clear hr0 hc0
  have HR1 := Aside0.mk hr1
  have HC1 := Aside0.mk hc1
  clear hr1 hc1
  have H : (if (l0.length : Int) = (l1.length : Int) then (laws_eqInt64S.l0 k l0 l1 0) else (some false)) = some r := h
  clear h
  by_cases c3 : (l0.length : Int) = (l1.length : Int)
  · rw [if_pos c3] at H
    have c3b0 : ((l0.length : Int) == (l1.length : Int)) = true := beq_iff_eq.mpr c3
    have c3b1 : ((l0.length : Int) != (l1.length : Int)) = false := bne_eq_false_iff_eq.mpr c3
    have c3b2 : (l0.length == l1.length) = true := by first | simpa using c3 | (simp at c3 ⊢; omega)
    clear c3
    have H' := Aside0.mk H
    clear H
    go_enter Tryd.func29, Tryd.ntmps29
    go_wp2
    repeat (go_quiet (fail); try go_wp2)
    go_loopg [5] k (fun kq v5 w' => ∃ (x5_1 : Int), v5 = .int .i64 x5_1 ∧ Aside0 (laws_eqInt64S.l0 kq l0 l1 x5_1 = some r) ∧ Aside0 (kq ≤ k) ∧ Drawn0 w w')
    case atStart => exact ⟨(0), (by first | rfl | (simp; done) | (simp [*]; done)), H', ⟨Nat.le_refl _⟩, by repeat (first | exact Drawn0.refl _ | apply Drawn0.step)⟩
    case round =>
      clear H'
      try clear c1
      try clear c2
      try clear p2
      try clear c3
      try clear c3b0
      try clear c3b1
      try clear c3b2
      obtain ⟨x5_1, rfl, HA, HK1, ⟨m1, rfl⟩⟩ := hrel
      cases gk with
      | zero => exact absurd HA.out (by simp [laws_eqInt64S.l0])
      | succ k1 =>
        have H := HA.out
        clear HA
        simp only [laws_eqInt64S.l0] at H
        by_cases c4 : x5_1 < (l0.length : Int)
        · rw [if_pos c4] at H
          have c4b0 : decide (x5_1 < (l0.length : Int)) = true := decide_eq_true c4
          clear c4
          by_cases c5 : 0 ≤ x5_1
          · rw [if_pos c5] at H
            have c5b0 : decide (0 ≤ x5_1) = true := decide_eq_true c5
            clear c5
            by_cases c6 : x5_1 < (l1.length : Int)
            · rw [if_pos c6] at H
              have c6b0 : decide (x5_1 < (l1.length : Int)) = true := decide_eq_true c6
              clear c6
              by_cases c7 : (rd l0 x5_1) = (rd l1 x5_1)
              · rw [if_pos c7] at H
                have c7b0 : ((rd l0 x5_1) == (rd l1 x5_1)) = true := beq_iff_eq.mpr c7
                have c7b1 : ((rd l0 x5_1) != (rd l1 x5_1)) = false := bne_eq_false_iff_eq.mpr c7
                clear c7
                have H' := Aside0.mk H
                clear H
                have p578 : 0 ≤ (x5_1 : Int) := of_decide_eq_true (by first | (with_reducible assumption) | assumption)
                have q578 : x5_1 < (l0.length : Int) := of_decide_eq_true (by first | (with_reducible assumption) | assumption)
                obtain ⟨ad578, e578, hx578_0⟩ := Kd.at_int HR0.out x5_1 p578 q578
                cases e578
                replace p578 := eq_true p578
                replace q578 := eq_true q578
                have p579 : 0 ≤ (x5_1 : Int) := of_decide_eq_true (by first | (with_reducible assumption) | assumption)
                have q579 : x5_1 < (l1.length : Int) := of_decide_eq_true (by first | (with_reducible assumption) | assumption)
                obtain ⟨ad579, e579, hx579_0⟩ := Kd.at_int HR1.out x5_1 p579 q579
                cases e579
                replace p579 := eq_true p579
                replace q579 := eq_true q579
                go_wp2
                repeat (go_quiet (fail); try go_wp2)
                go_roundg k1
                case measure => have := HK1.out; omega
                case rel => exact ⟨(wrap64 (x5_1 + 1)), (by first | rfl | (simp; done) | (simp [*]; done)), H', ⟨by have := HK1.out; omega⟩, by repeat (first | exact Drawn0.refl _ | apply Drawn0.step)⟩
              · rw [if_neg c7] at H
                have c7b0 : ((rd l0 x5_1) == (rd l1 x5_1)) = false := beq_eq_false_iff_ne.mpr c7
                have c7b1 : ((rd l0 x5_1) != (rd l1 x5_1)) = true := bne_iff_ne.mpr c7
                obtain rfl := Option.some.inj H
                have p578 : 0 ≤ (x5_1 : Int) := of_decide_eq_true (by first | (with_reducible assumption) | assumption)
                have q578 : x5_1 < (l0.length : Int) := of_decide_eq_true (by first | (with_reducible assumption) | assumption)
                obtain ⟨ad578, e578, hx578_0⟩ := Kd.at_int HR0.out x5_1 p578 q578
                cases e578
                replace p578 := eq_true p578
                replace q578 := eq_true q578
                have p579 : 0 ≤ (x5_1 : Int) := of_decide_eq_true (by first | (with_reducible assumption) | assumption)
                have q579 : x5_1 < (l1.length : Int) := of_decide_eq_true (by first | (with_reducible assumption) | assumption)
                obtain ⟨ad579, e579, hx579_0⟩ := Kd.at_int HR1.out x5_1 p579 q579
                cases e579
                replace p579 := eq_true p579
                replace q579 := eq_true q579
                go_wp2
                repeat (go_quiet (fail); try go_wp2)
                go_ret
                exact ⟨by first | rfl | (simp; done) | (simp [*]; done), by repeat (first | exact Drawn0.refl _ | apply Drawn0.step)⟩
            · rw [if_neg c6] at H
              exact absurd H (by simp)
          · rw [if_neg c5] at H
            exact absurd H (by simp)
        · rw [if_neg c4] at H
          have c4b0 : decide (x5_1 < (l0.length : Int)) = false := decide_eq_false c4
          clear c4
          obtain rfl := Option.some.inj H
          go_wp2
          repeat (go_quiet (fail); try go_wp2)
          go_ret
          exact ⟨by first | rfl | (simp; done) | (simp [*]; done), by repeat (first | exact Drawn0.refl _ | apply Drawn0.step)⟩
  · rw [if_neg c3] at H
    have c3b0 : ((l0.length : Int) == (l1.length : Int)) = false := beq_eq_false_iff_ne.mpr c3
    have c3b1 : ((l0.length : Int) != (l1.length : Int)) = true := bne_iff_ne.mpr c3
    have c3b2 : (l0.length == l1.length) = false := by first | simpa using c3 | (simp at c3 ⊢; omega)
    obtain rfl := Option.some.inj H
    go_enter Tryd.func29, Tryd.ntmps29
    go_wp2
    repeat (go_quiet (fail); try go_wp2)
    go_ret
    exact ⟨by first | rfl | (simp; done) | (simp [*]; done), by repeat (first | exact Drawn0.refl _ | apply Drawn0.step)⟩
def laws_markPairS.l0 : Nat → List (S137) → Int → Int → Option (Int × (List (S137)))
  | 0, _, _, _ => none
  | k + 1, x0, x1, x5 => if x5 < (x0.length : Int) then (if 0 ≤ x5 then ((some (x0.set (x5 : Int).toNat (⟨(x1) % 256, (rd_T137 x0 x5).f1, (rd_T137 x0 x5).f2⟩ : S137) : List (S137))).bind fun y580 => ((some (y580.set (x5 : Int).toNat (⟨(rd_T137 y580 x5).f0, (wrap64 (x1 + 1)) % 256, (rd_T137 y580 x5).f2⟩ : S137) : List (S137))).bind fun y581 => (laws_markPairS.l0 k (y581.set (x5 : Int).toNat (⟨(rd_T137 y581 x5).f0, (rd_T137 y581 x5).f1, IntKind.i8.wrap (wrap64 ((wrap64 (x1 + 1)) + 1))⟩ : S137)) (wrap64 ((wrap64 ((wrap64 (x1 + 1)) + 1)) + 1)) (wrap64 (x5 + 1))))) else (none)) else (some (x1, x0))
def laws_markPairS.f (k : Nat) (l0 : List (S137)) (a1 : Int) : Option (Int × (List (S137))) := laws_markPairS.l0 k l0 a1 0
theorem laws_markPairS.mono_l : ∀ k, (∀ y0 y1 y2, LeO (laws_markPairS.l0 k y0 y1 y2) (laws_markPairS.l0 (k + 1) y0 y1 y2))
  | 0 => fun _ _ _ r h => by simp [laws_markPairS.l0] at h
  | k + 1 => by
    have ih0 := laws_markPairS.mono_l k
    · intro y0 y1 y2
      unfold laws_markPairS.l0
      repeat' first
      | (with_reducible exact ih0 _ _ _)
      | (with_reducible exact LeO.refl _)
      | (with_reducible exact LeO.none _)
      | (with_reducible refine LeO.ite ?_ ?_)
      | (with_reducible refine LeO.bind ?_ (fun _ => ?_))
      | exact ih0 _ _ _
      | exact LeO.none _
      | refine LeO.ite ?_ ?_
      | refine LeO.bind ?_ (fun _ => ?_)
theorem laws_markPairS.mono : ∀ a0 a1 k, LeO (laws_markPairS.f k a0 a1) (laws_markPairS.f (k + 1) a0 a1) := by
  intro a0 a1 k
  have ih0 := laws_markPairS.mono_l k
  unfold laws_markPairS.f
  repeat' first
      | (with_reducible exact ih0 _ _ _)
      | (with_reducible exact LeO.refl _)
      | (with_reducible exact LeO.none _)
      | (with_reducible refine LeO.ite ?_ ?_)
      | (with_reducible refine LeO.bind ?_ (fun _ => ?_))
      | exact ih0 _ _ _
      | exact LeO.none _
      | refine LeO.ite ?_ ?_
      | refine LeO.bind ?_ (fun _ => ?_)
set_option maxHeartbeats 8000000 in
set_option maxRecDepth 100000 in
theorem laws_markPairS.calls (k : Nat) (P0_ : Nat → Prop) (u9000_ : Value) (l0 : List (S137)) (a1 : Int) (r1 : Int) (r2 : List (S137)) (w0 w : World) (hB : Below w0.heap.size w0 w) (ho0 : Kd.R k137 137 w w0.heap.size P0_ u9000_ l0) (h : laws_markPairS.f k l0 a1 = some (r1, r2)) :
    Calls Tryd.prog 81 #[u9000_, .int .i64 a1] w fun e w' => e = .returned (.int .i64 r1) ∧ Kd.R k137 137 w' w0.heap.size (fun k_ => (P0_ k_ ∨ w.heap.size ≤ k_)) u9000_ r2 ∧ Below w0.heap.size w0 w' ∧ Kept w w' (fun k_ => P0_ k_) := by
  have HO0 := Aside0.mk (show Kd.R k137 137 w w0.heap.size (fun k_ => (P0_ k_ ∨ w.heap.size ≤ k_)) u9000_ l0 from Kd.R_mono ho0 (fun k_ hk => (.inl hk)))
  have HK := Aside0.mk (Kept.refl w (fun k_ => P0_ k_))
  have HW0 := Aside0.mk hB.size
  have HB := Aside0.mk hB
  clear hB
  have H : (laws_markPairS.l0 k l0 a1 0) = some (r1, r2) := h
  clear h
  have H' := Aside0.mk H
  clear H
  go_enter Tryd.func81, Tryd.ntmps81
  go_wp2
  go_loopg [1, 5] k (fun kq v1 v5 w' => ∃ (x0_1 : List (S137)) (x1_1 : Int) (x5_1 : Int), v1 = .int .i64 x1_1 ∧ v5 = .int .i64 x5_1 ∧ Aside0 (laws_markPairS.l0 kq x0_1 x1_1 x5_1 = some (r1, r2)) ∧ Aside0 (kq ≤ k) ∧ Aside0 (Kd.R k137 137 w' w0.heap.size (fun k_ => (P0_ k_ ∨ w.heap.size ≤ k_)) u9000_ x0_1) ∧ Aside0 (Kept w w' (fun k_ => P0_ k_)) ∧ Aside0 (Below w0.heap.size w0 w'))
  case atStart => exact ⟨(l0), (a1), (0), (by first | rfl | (simp; done) | (simp [*]; done)), (by first | rfl | (simp; done) | (simp [*]; done)), H', ⟨Nat.le_refl _⟩, ⟨by (with_reducible repeat (first | apply Kd.R_alloc | apply Kd.R_drewN | apply Kd.R_drew)); exact HO0.out⟩, ⟨by repeat (first | (with_reducible first | exact HK.out | apply Kept.alloc | apply Kept.drewN | apply Kept.drew) | exact HK.out)⟩, ⟨by repeat (first | (with_reducible first | exact HB.out | apply below_alloc | apply pw_below_drewN | apply below_drew1) | exact HB.out)⟩⟩
  case round =>
    clear H'
    try clear p2
    obtain ⟨x0_1, x1_1, x5_1, rfl, rfl, HA, HK1, HO_0, HK, HB⟩ := hrel
    cases gk with
    | zero => exact absurd HA.out (by simp [laws_markPairS.l0])
    | succ k1 =>
      have H := HA.out
      clear HA
      simp only [laws_markPairS.l0] at H
      by_cases c3 : x5_1 < (x0_1.length : Int)
      · rw [if_pos c3] at H
        have c3b0 : decide (x5_1 < (x0_1.length : Int)) = true := decide_eq_true c3
        clear c3
        by_cases c4 : 0 ≤ x5_1
        · rw [if_pos c4] at H
          have c4b0 : decide (0 ≤ x5_1) = true := decide_eq_true c4
          clear c4
          obtain ⟨y580, hy580⟩ : ∃ y_ : List (S137), y_ = (x0_1.set (x5_1 : Int).toNat (⟨(x1_1) % 256, (rd_T137 x0_1 x5_1).f1, (rd_T137 x0_1 x5_1).f2⟩ : S137)) := ⟨_, rfl⟩
          replace H : ((some (y580.set (x5_1 : Int).toNat (⟨(rd_T137 y580 x5_1).f0, (wrap64 (x1_1 + 1)) % 256, (rd_T137 y580 x5_1).f2⟩ : S137) : List (S137))).bind fun y581 => (laws_markPairS.l0 k1 (y581.set (x5_1 : Int).toNat (⟨(rd_T137 y581 x5_1).f0, (rd_T137 y581 x5_1).f1, IntKind.i8.wrap (wrap64 ((wrap64 (x1_1 + 1)) + 1))⟩ : S137)) (wrap64 ((wrap64 ((wrap64 (x1_1 + 1)) + 1)) + 1)) (wrap64 (x5_1 + 1)))) = some (r1, r2) := by first | (rw [hy580]; with_reducible exact H) | (have H2_ := (Option.bind_some _ _).symm.trans H; rw [hy580]; with_reducible exact H2_) | (have H2_ := (Option.bind_some _ _).symm.trans H; with_reducible exact H2_) | with_reducible exact H | (rw [hy580]; exact H) | exact H
          have Ny580 := Aside0.mk hy580
          clear hy580
          obtain ⟨y581, hy581⟩ : ∃ y_ : List (S137), y_ = (y580.set (x5_1 : Int).toNat (⟨(rd_T137 y580 x5_1).f0, (wrap64 (x1_1 + 1)) % 256, (rd_T137 y580 x5_1).f2⟩ : S137)) := ⟨_, rfl⟩
          replace H : (laws_markPairS.l0 k1 (y581.set (x5_1 : Int).toNat (⟨(rd_T137 y581 x5_1).f0, (rd_T137 y581 x5_1).f1, IntKind.i8.wrap (wrap64 ((wrap64 (x1_1 + 1)) + 1))⟩ : S137)) (wrap64 ((wrap64 ((wrap64 (x1_1 + 1)) + 1)) + 1)) (wrap64 (x5_1 + 1))) = some (r1, r2) := by first | (rw [hy581]; with_reducible exact H) | (have H2_ := (Option.bind_some _ _).symm.trans H; rw [hy581]; with_reducible exact H2_) | (have H2_ := (Option.bind_some _ _).symm.trans H; with_reducible exact H2_) | with_reducible exact H | (rw [hy581]; exact H) | exact H
          have Ny581 := Aside0.mk hy581
          clear hy581
          obtain ⟨y582, hy582⟩ : ∃ y_ : List (S137), y_ = (y581.set (x5_1 : Int).toNat (⟨(rd_T137 y581 x5_1).f0, (rd_T137 y581 x5_1).f1, IntKind.i8.wrap (wrap64 ((wrap64 (x1_1 + 1)) + 1))⟩ : S137)) := ⟨_, rfl⟩
          replace H : (laws_markPairS.l0 k1 y582 (wrap64 ((wrap64 ((wrap64 (x1_1 + 1)) + 1)) + 1)) (wrap64 (x5_1 + 1))) = some (r1, r2) := by first | (rw [hy582]; with_reducible exact H) | (have H2_ := (Option.bind_some _ _).symm.trans H; rw [hy582]; with_reducible exact H2_) | (have H2_ := (Option.bind_some _ _).symm.trans H; with_reducible exact H2_) | with_reducible exact H | (rw [hy582]; exact H) | exact H
          have Ny582 := Aside0.mk hy582
          clear hy582
          have H' := Aside0.mk H
          clear H
          obtain ⟨Ao8, co8, eo8⟩ := Kd.R_slice HO_0.out
          subst eo8
          have p5 : 0 ≤ (x5_1 : Int) := of_decide_eq_true (by first | (with_reducible assumption) | assumption)
          have q5 : (x5_1 : Int) < ((x0_1.length : Int) : Int) := of_decide_eq_true (by first | (with_reducible assumption) | assumption)
          obtain ⟨go5, co5, eo5, gb5, gl5, cl5, HG5⟩ := Kd.R_form HO_0.out (by omega)
          (first | cases eo5 | (injection eo5 with ea_ en_ ec_; (first | subst ea_ | (injection ea_ with ea_; subst ea_)); subst ec_; clear en_))
          have GB5 := Aside0.mk gb5
          have GG5 := Aside0.mk HG5
          clear gb5 gl5 HG5
          have HMgo5 := Aside0.mk (show (P0_ go5 ∨ w.heap.size ≤ go5) from (HO_0.out.1 _ rfl))
          obtain ⟨ce5, hcl5, hM5, hcc5, hfr5⟩ := Kd.R_elem HO_0.out z137 (x5_1 : Int) p5 q5
          obtain rfl := k137_openM hM5
          have hx5_0 : wr.cell? ⟨go5, (x5_1 : Int).toNat * 3, none⟩ = some (.int .u8 ((rd_T137 x0_1 x5_1).f0)) := hcc5 0 _ rfl
          have hx5_1 : wr.cell? ⟨go5, (x5_1 : Int).toNat * 3 + 1, none⟩ = some (.int .u8 ((rd_T137 x0_1 x5_1).f1)) := hcc5 1 _ rfl
          have hx5_2 : wr.cell? ⟨go5, (x5_1 : Int).toNat * 3 + 2, none⟩ = some (.int .i8 ((rd_T137 x0_1 x5_1).f2)) := hcc5 2 _ rfl
          have hf5_0 : wr.frozen? ⟨go5, (x5_1 : Int).toNat * 3, none⟩ = false := hfr5 0
          have hf5_1 : wr.frozen? ⟨go5, (x5_1 : Int).toNat * 3 + 1, none⟩ = false := hfr5 1
          have hf5_2 : wr.frozen? ⟨go5, (x5_1 : Int).toNat * 3 + 2, none⟩ = false := hfr5 2
          clear hcl5 hcc5 hfr5 hM5
          replace p5 := eq_true p5
          replace q5 := eq_true q5
          have HX9 := Aside0.mk (show Kd.R k137 137 wr w0.heap.size (fun k_ => (P0_ k_ ∨ w.heap.size ≤ k_)) (.slice (some ⟨go5, 0, none⟩) x0_1.length co8) x0_1 from (by (with_reducible repeat (first | apply Kd.R_alloc | apply Kd.R_drewN | apply Kd.R_drew)); exact HO_0.out))
          obtain ⟨ce9, hcl9, hM9, hcc9, hfr9⟩ := Kd.R_elem HX9.out z137 (x5_1 : Int) (of_decide_eq_true (by first | (with_reducible assumption) | assumption)) (by have h_ : (x5_1 : Int) < ((x0_1.length : Int) : Int) := of_decide_eq_true (by first | (with_reducible assumption) | assumption); first | exact h_ | (have e_ := (Kd.R_reads' HO_0.out).1; omega) | simpa using h_)
          obtain rfl := k137_openM hM9
          have HP9 := Kd.R_seg HX9.out (x5_1 : Int) (of_decide_eq_true (by first | (with_reducible assumption) | assumption)) (by have h_ : (x5_1 : Int) < ((x0_1.length : Int) : Int) := of_decide_eq_true (by first | (with_reducible assumption) | assumption); first | exact h_ | (have e_ := (Kd.R_reads' HO_0.out).1; omega) | simpa using h_) (seg := [.int .u8 ((x1_1) % 256)]) (j := 0) hcl9 hcc9 (show 1 ≤ 3 from by decide) (x' := (⟨(x1_1) % 256, (rd_T137 x0_1 x5_1).f1, (rd_T137 x0_1 x5_1).f2⟩ : S137)) (k137_mkM _ _ _ (⟨(x1_1) % 256, (rd_T137 x0_1 x5_1).f1, (rd_T137 x0_1 x5_1).f2⟩ : S137) ) (fun _ hk => hk)
          have hx9_0 := hcc9 0 _ rfl
          (try simp only [show (k137).sz = 3 from rfl, Nat.mul_one, Nat.add_zero] at hx9_0)
          have hf9_0 := hfr9 0
          (try simp only [show (k137).sz = 3 from rfl, Nat.mul_one, Nat.add_zero] at hf9_0)
          clear hcl9 hcc9 hfr9 hM9
          go_wp2_with (first | ((with_reducible refine gate_store (t := 5) (p := 17) rfl ?_); refine store_event (t := 5) (p := 17) (v := ?vo_w10) (w1 := (wr.setCell ⟨go5, (x5_1 : Int).toNat * 3, none⟩ (.int .u8 ((x1_1) % 256)))) ?hg ?ho ?hn ?hr ?_; (case ho => rfl); (case hg => rfl); (case hn => rfl); (case hr => first | (go_simp; done) | (go_simp; rfl)); intro w10 hw; have hg : wr.grownBy w10 (some go5) := (by rw [hw]; exact HP9.2); have hp_ : Kd.R k137 137 w10 w0.heap.size (fun k_ => (P0_ k_ ∨ w.heap.size ≤ k_)) (.slice (some ⟨go5, 0, none⟩) x0_1.length co8) y580 := (by rw [hw, Ny580.out]; exact HP9.1); clear HP9; have n0_ := Aside0.mk (hp_); have n1_ := Aside0.mk ((by rw [hw]; exact below_set (HB.out) GB5.out : Below w0.heap.size w0 w10)); have n2_ := Aside0.mk (Kept.of_grown (S := (fun k_ => P0_ k_)) hg (by repeat (first | (with_reducible first | exact HK.out | apply Kept.alloc | apply Kept.drewN | apply Kept.drew) | exact HK.out)) (fun k_ e_ => (HO_0.out.1 k_ e_))); clear HO_0; clear HB; clear HK; have HO_0 := n0_; have HB := n1_; have HK := n2_; clear n0_ n1_ n2_; clear hg hw hp_; have p6 : 0 ≤ (x5_1 : Int) := of_decide_eq_true (by first | (with_reducible assumption) | assumption); have q6 : (x5_1 : Int) < ((x0_1.length : Int) : Int) := of_decide_eq_true (by first | (with_reducible assumption) | assumption); obtain ⟨ce6, hcl6, hM6, hcc6, hfr6⟩ := Kd.R_elem HO_0.out z137 (x5_1 : Int) p6 q6; obtain rfl := k137_openM hM6; have hx6_0 : w10.cell? ⟨go5, (x5_1 : Int).toNat * 3, none⟩ = some (.int .u8 ((rd_T137 y580 x5_1).f0)) := hcc6 0 _ rfl; have hx6_1 : w10.cell? ⟨go5, (x5_1 : Int).toNat * 3 + 1, none⟩ = some (.int .u8 ((rd_T137 y580 x5_1).f1)) := hcc6 1 _ rfl; have hx6_2 : w10.cell? ⟨go5, (x5_1 : Int).toNat * 3 + 2, none⟩ = some (.int .i8 ((rd_T137 y580 x5_1).f2)) := hcc6 2 _ rfl; have hf6_0 : w10.frozen? ⟨go5, (x5_1 : Int).toNat * 3, none⟩ = false := hfr6 0; have hf6_1 : w10.frozen? ⟨go5, (x5_1 : Int).toNat * 3 + 1, none⟩ = false := hfr6 1; have hf6_2 : w10.frozen? ⟨go5, (x5_1 : Int).toNat * 3 + 2, none⟩ = false := hfr6 2; clear hcl6 hcc6 hfr6 hM6; replace p6 := eq_true p6; replace q6 := eq_true q6; have HX11 := Aside0.mk (show Kd.R k137 137 w10 w0.heap.size (fun k_ => (P0_ k_ ∨ w.heap.size ≤ k_)) (.slice (some ⟨go5, 0, none⟩) x0_1.length co8) y580 from (by (with_reducible repeat (first | apply Kd.R_alloc | apply Kd.R_drewN | apply Kd.R_drew)); exact HO_0.out)); obtain ⟨ce11, hcl11, hM11, hcc11, hfr11⟩ := Kd.R_elem HX11.out z137 (x5_1 : Int) (of_decide_eq_true (by first | (with_reducible assumption) | assumption)) (by have h_ : (x5_1 : Int) < ((x0_1.length : Int) : Int) := of_decide_eq_true (by first | (with_reducible assumption) | assumption); first | exact h_ | (have e_ := (Kd.R_reads' HO_0.out).1; omega) | simpa using h_); obtain rfl := k137_openM hM11; have HP11 := Kd.R_seg HX11.out (x5_1 : Int) (of_decide_eq_true (by first | (with_reducible assumption) | assumption)) (by have h_ : (x5_1 : Int) < ((x0_1.length : Int) : Int) := of_decide_eq_true (by first | (with_reducible assumption) | assumption); first | exact h_ | (have e_ := (Kd.R_reads' HO_0.out).1; omega) | simpa using h_) (seg := [.int .u8 ((wrap64 (x1_1 + 1)) % 256)]) (j := 1) hcl11 hcc11 (show 2 ≤ 3 from by decide) (x' := (⟨(rd_T137 y580 x5_1).f0, (wrap64 (x1_1 + 1)) % 256, (rd_T137 y580 x5_1).f2⟩ : S137)) (k137_mkM _ _ _ (⟨(rd_T137 y580 x5_1).f0, (wrap64 (x1_1 + 1)) % 256, (rd_T137 y580 x5_1).f2⟩ : S137) ) (fun _ hk => hk); have hx11_1 := hcc11 1 _ rfl; (try simp only [show (k137).sz = 3 from rfl, Nat.mul_one, Nat.add_zero] at hx11_1); have hf11_1 := hfr11 1; (try simp only [show (k137).sz = 3 from rfl, Nat.mul_one, Nat.add_zero] at hf11_1); clear hcl11 hcc11 hfr11 hM11) | ((with_reducible refine gate_store (t := 5) (p := 25) rfl ?_); refine store_event (t := 5) (p := 25) (v := ?vo_w12) (w1 := (w10.setCell ⟨go5, (x5_1 : Int).toNat * 3 + 1, none⟩ (.int .u8 ((wrap64 (x1_1 + 1)) % 256)))) ?hg ?ho ?hn ?hr ?_; (case ho => rfl); (case hg => rfl); (case hn => rfl); (case hr => first | (go_simp; done) | (go_simp; rfl)); intro w12 hw; have hg : w10.grownBy w12 (some go5) := (by rw [hw]; exact HP11.2); have hp_ : Kd.R k137 137 w12 w0.heap.size (fun k_ => (P0_ k_ ∨ w.heap.size ≤ k_)) (.slice (some ⟨go5, 0, none⟩) x0_1.length co8) y581 := (by rw [hw, Ny581.out]; exact HP11.1); clear HP11; have n0_ := Aside0.mk (hp_); have n1_ := Aside0.mk ((by rw [hw]; exact below_set (HB.out) GB5.out : Below w0.heap.size w0 w12)); have n2_ := Aside0.mk (Kept.of_grown (S := (fun k_ => P0_ k_)) hg (by repeat (first | (with_reducible first | exact HK.out | apply Kept.alloc | apply Kept.drewN | apply Kept.drew) | exact HK.out)) (fun k_ e_ => (HO_0.out.1 k_ e_))); clear HO_0; clear HB; clear HK; have HO_0 := n0_; have HB := n1_; have HK := n2_; clear n0_ n1_ n2_; clear hg hw hp_; have p7 : 0 ≤ (x5_1 : Int) := of_decide_eq_true (by first | (with_reducible assumption) | assumption); have q7 : (x5_1 : Int) < ((x0_1.length : Int) : Int) := of_decide_eq_true (by first | (with_reducible assumption) | assumption); obtain ⟨ce7, hcl7, hM7, hcc7, hfr7⟩ := Kd.R_elem HO_0.out z137 (x5_1 : Int) p7 q7; obtain rfl := k137_openM hM7; have hx7_0 : w12.cell? ⟨go5, (x5_1 : Int).toNat * 3, none⟩ = some (.int .u8 ((rd_T137 y581 x5_1).f0)) := hcc7 0 _ rfl; have hx7_1 : w12.cell? ⟨go5, (x5_1 : Int).toNat * 3 + 1, none⟩ = some (.int .u8 ((rd_T137 y581 x5_1).f1)) := hcc7 1 _ rfl; have hx7_2 : w12.cell? ⟨go5, (x5_1 : Int).toNat * 3 + 2, none⟩ = some (.int .i8 ((rd_T137 y581 x5_1).f2)) := hcc7 2 _ rfl; have hf7_0 : w12.frozen? ⟨go5, (x5_1 : Int).toNat * 3, none⟩ = false := hfr7 0; have hf7_1 : w12.frozen? ⟨go5, (x5_1 : Int).toNat * 3 + 1, none⟩ = false := hfr7 1; have hf7_2 : w12.frozen? ⟨go5, (x5_1 : Int).toNat * 3 + 2, none⟩ = false := hfr7 2; clear hcl7 hcc7 hfr7 hM7; replace p7 := eq_true p7; replace q7 := eq_true q7; have HX13 := Aside0.mk (show Kd.R k137 137 w12 w0.heap.size (fun k_ => (P0_ k_ ∨ w.heap.size ≤ k_)) (.slice (some ⟨go5, 0, none⟩) x0_1.length co8) y581 from (by (with_reducible repeat (first | apply Kd.R_alloc | apply Kd.R_drewN | apply Kd.R_drew)); exact HO_0.out)); obtain ⟨ce13, hcl13, hM13, hcc13, hfr13⟩ := Kd.R_elem HX13.out z137 (x5_1 : Int) (of_decide_eq_true (by first | (with_reducible assumption) | assumption)) (by have h_ : (x5_1 : Int) < ((x0_1.length : Int) : Int) := of_decide_eq_true (by first | (with_reducible assumption) | assumption); first | exact h_ | (have e_ := (Kd.R_reads' HO_0.out).1; omega) | simpa using h_); obtain rfl := k137_openM hM13; have HP13 := Kd.R_seg HX13.out (x5_1 : Int) (of_decide_eq_true (by first | (with_reducible assumption) | assumption)) (by have h_ : (x5_1 : Int) < ((x0_1.length : Int) : Int) := of_decide_eq_true (by first | (with_reducible assumption) | assumption); first | exact h_ | (have e_ := (Kd.R_reads' HO_0.out).1; omega) | simpa using h_) (seg := [.int .i8 (IntKind.i8.wrap (wrap64 ((wrap64 (x1_1 + 1)) + 1)))]) (j := 2) hcl13 hcc13 (show 3 ≤ 3 from by decide) (x' := (⟨(rd_T137 y581 x5_1).f0, (rd_T137 y581 x5_1).f1, IntKind.i8.wrap (wrap64 ((wrap64 (x1_1 + 1)) + 1))⟩ : S137)) (k137_mkM _ _ _ (⟨(rd_T137 y581 x5_1).f0, (rd_T137 y581 x5_1).f1, IntKind.i8.wrap (wrap64 ((wrap64 (x1_1 + 1)) + 1))⟩ : S137) ) (fun _ hk => hk); have hx13_2 := hcc13 2 _ rfl; (try simp only [show (k137).sz = 3 from rfl, Nat.mul_one, Nat.add_zero] at hx13_2); have hf13_2 := hfr13 2; (try simp only [show (k137).sz = 3 from rfl, Nat.mul_one, Nat.add_zero] at hf13_2); clear hcl13 hcc13 hfr13 hM13) | ((with_reducible refine gate_store (t := 22) (p := 33) rfl ?_); refine store_event (t := 22) (p := 33) (v := ?vo_w14) (w1 := (w12.setCell ⟨go5, (x5_1 : Int).toNat * 3 + 2, none⟩ (.int .i8 (IntKind.i8.wrap (wrap64 ((wrap64 (x1_1 + 1)) + 1)))))) ?hg ?ho ?hn ?hr ?_; (case ho => rfl); (case hg => rfl); (case hn => rfl); (case hr => first | (go_simp; done) | (go_simp; rfl)); intro w14 hw; have hg : w12.grownBy w14 (some go5) := (by rw [hw]; exact HP13.2); have hp_ : Kd.R k137 137 w14 w0.heap.size (fun k_ => (P0_ k_ ∨ w.heap.size ≤ k_)) (.slice (some ⟨go5, 0, none⟩) x0_1.length co8) y582 := (by rw [hw, Ny582.out]; exact HP13.1); clear HP13; have n0_ := Aside0.mk (hp_); have n1_ := Aside0.mk ((by rw [hw]; exact below_set (HB.out) GB5.out : Below w0.heap.size w0 w14)); have n2_ := Aside0.mk (Kept.of_grown (S := (fun k_ => P0_ k_)) hg (by repeat (first | (with_reducible first | exact HK.out | apply Kept.alloc | apply Kept.drewN | apply Kept.drew) | exact HK.out)) (fun k_ e_ => (HO_0.out.1 k_ e_))); clear HO_0; clear HB; clear HK; have HO_0 := n0_; have HB := n1_; have HK := n2_; clear n0_ n1_ n2_; clear hg hw hp_))
          go_roundg k1
          case measure => have := HK1.out; omega
          case rel => exact ⟨(y582), (wrap64 ((wrap64 ((wrap64 (x1_1 + 1)) + 1)) + 1)), (wrap64 (x5_1 + 1)), (by first | rfl | (simp; done) | (simp [*]; done)), (by first | rfl | (simp; done) | (simp [*]; done)), H', ⟨by have := HK1.out; omega⟩, ⟨by (with_reducible repeat (first | apply Kd.R_alloc | apply Kd.R_drewN | apply Kd.R_drew)); exact HO_0.out⟩, ⟨by repeat (first | (with_reducible first | exact HK.out | apply Kept.alloc | apply Kept.drewN | apply Kept.drew) | exact HK.out)⟩, ⟨by repeat (first | (with_reducible first | exact HB.out | apply below_alloc | apply pw_below_drewN | apply below_drew1) | exact HB.out)⟩⟩
        · rw [if_neg c4] at H
          exact absurd H (by simp)
      · rw [if_neg c3] at H
        have c3b0 : decide (x5_1 < (x0_1.length : Int)) = false := decide_eq_false c3
        clear c3
        simp only [Option.some.injEq, Prod.mk.injEq] at H
        obtain ⟨rfl, rfl⟩ := H
        obtain ⟨Ao15, co15, eo15⟩ := Kd.R_slice HO_0.out
        subst eo15
        go_wp2
        go_ret
        exact ⟨by first | rfl | (simp [errW_none, errW_some] <;> rfl) | (simp [*, errW_none, errW_some] <;> rfl), by (with_reducible repeat (first | apply Kd.R_alloc | apply Kd.R_drewN | apply Kd.R_drew)); exact HO_0.out, by repeat (first | (with_reducible first | exact HB.out | apply below_alloc | apply pw_below_drewN | apply below_drew1) | exact HB.out), by repeat (first | (with_reducible first | exact HK.out | apply Kept.alloc | apply Kept.drewN | apply Kept.drew) | exact HK.out)⟩
def laws_markFace.f (k : Nat) (a0_0 a0_1 a0_2 a0_3 a0_4 a0_5 a0_6 a0_7 a0_8 a0_9 a0_10 a0_11 a0_12 a0_13 a0_14 a0_15 a0_16 a0_17 a0_18 a0_19 a0_20 a0_21 a0_22 a0_23 a0_24 a0_25 a0_26 a0_27 : Int) (l0_28 : List (S137)) (a1 : Int) : Option (Int × (List (S137))) := (laws_markPairS.f k l0_28 a1).bind fun bt584 => (some (bt584.1, bt584.2))
theorem laws_markFace.mono : ∀ a0 a1 a2 a3 a4 a5 a6 a7 a8 a9 a10 a11 a12 a13 a14 a15 a16 a17 a18 a19 a20 a21 a22 a23 a24 a25 a26 a27 a28 a29 k, LeO (laws_markFace.f k a0 a1 a2 a3 a4 a5 a6 a7 a8 a9 a10 a11 a12 a13 a14 a15 a16 a17 a18 a19 a20 a21 a22 a23 a24 a25 a26 a27 a28 a29) (laws_markFace.f (k + 1) a0 a1 a2 a3 a4 a5 a6 a7 a8 a9 a10 a11 a12 a13 a14 a15 a16 a17 a18 a19 a20 a21 a22 a23 a24 a25 a26 a27 a28 a29) := by
  intro a0 a1 a2 a3 a4 a5 a6 a7 a8 a9 a10 a11 a12 a13 a14 a15 a16 a17 a18 a19 a20 a21 a22 a23 a24 a25 a26 a27 a28 a29 k
  unfold laws_markFace.f
  repeat' first
      | (with_reducible exact laws_markPairS.mono _ _ _)
      | (with_reducible exact LeO.refl _)
      | (with_reducible exact LeO.none _)
      | (with_reducible refine LeO.ite ?_ ?_)
      | (with_reducible refine LeO.bind ?_ (fun _ => ?_))
      | exact laws_markPairS.mono _ _ _
      | exact LeO.none _
      | refine LeO.ite ?_ ?_
      | refine LeO.bind ?_ (fun _ => ?_)
set_option maxHeartbeats 8000000 in
set_option maxRecDepth 100000 in
theorem laws_markFace.calls (k : Nat) (a0_0 a0_1 a0_2 a0_3 a0_4 a0_5 a0_6 a0_7 a0_8 a0_9 a0_10 a0_11 a0_12 a0_13 a0_14 a0_15 a0_16 a0_17 a0_18 a0_19 a0_20 a0_21 a0_22 a0_23 a0_24 a0_25 a0_26 a0_27 : Int) (P0_28_ : Nat → Prop) (u9000_ : Value) (l0_28 : List (S137)) (a1 : Int) (r1 : Int) (r2 : List (S137)) (w0 w : World) (hB : Below w0.heap.size w0 w) (ho0_28 : Kd.R k137 137 w w0.heap.size P0_28_ u9000_ l0_28) (h : laws_markFace.f k a0_0 a0_1 a0_2 a0_3 a0_4 a0_5 a0_6 a0_7 a0_8 a0_9 a0_10 a0_11 a0_12 a0_13 a0_14 a0_15 a0_16 a0_17 a0_18 a0_19 a0_20 a0_21 a0_22 a0_23 a0_24 a0_25 a0_26 a0_27 l0_28 a1 = some (r1, r2)) :
    Calls Tryd.prog 30 #[.agg #[.int .i8 a0_0, .int .i8 a0_1, .int .i8 a0_2, .int .i8 a0_3, .int .i8 a0_4, .int .i8 a0_5, .int .i8 a0_6, .int .i8 a0_7, .int .i8 a0_8, .int .i8 a0_9, .int .i8 a0_10, .int .i8 a0_11, .int .i8 a0_12, .int .i8 a0_13, .int .i8 a0_14, .int .i8 a0_15, .int .i8 a0_16, .int .i8 a0_17, .int .i8 a0_18, .int .i8 a0_19, .int .i8 a0_20, .int .i8 a0_21, .int .i8 a0_22, .int .i8 a0_23, .int .i8 a0_24, .int .i8 a0_25, .int .i8 a0_26, .int .i8 a0_27, u9000_], .int .i64 a1] w fun e w' => e = .returned (.int .i64 r1) ∧ Kd.R k137 137 w' w0.heap.size (fun k_ => (P0_28_ k_ ∨ w.heap.size ≤ k_)) u9000_ r2 ∧ Below w0.heap.size w0 w' ∧ Kept w w' (fun k_ => P0_28_ k_) := by
  have hu32 := Tryd.underlying32
  have HO0_28 := Aside0.mk (show Kd.R k137 137 w w0.heap.size (fun k_ => (P0_28_ k_ ∨ w.heap.size ≤ k_)) u9000_ l0_28 from Kd.R_mono ho0_28 (fun k_ hk => (.inl hk)))
  have HK := Aside0.mk (Kept.refl w (fun k_ => P0_28_ k_))
  have HW0 := Aside0.mk hB.size
  have HB := Aside0.mk hB
  clear hB
  have H : ((laws_markPairS.f k l0_28 a1).bind fun bt584 => (some (bt584.1, bt584.2))) = some (r1, r2) := h
  clear h
  replace H := Option.bind_eq_some_iff.mp H
  obtain ⟨⟨t584, t585⟩, A30, H⟩ := H
  replace H : (some (t584, t585)) = some (r1, r2) := H
  have A3 := Aside0.mk A30
  clear A30
  simp only [Option.some.injEq, Prod.mk.injEq] at H
  obtain ⟨rfl, rfl⟩ := H
  obtain ⟨Ao4, co4, eo4⟩ := Kd.R_slice HO0_28.out
  subst eo4
  go_enter Tryd.func30, Tryd.ntmps30
  go_wp2_with (first | ((with_reducible refine gate_dst (N := 2) rfl ?_); refine box_event ?hg (N := 2) ?hd (cs := #[.int .i8 a0_0, .int .i8 a0_1, .int .i8 a0_2, .int .i8 a0_3, .int .i8 a0_4, .int .i8 a0_5, .int .i8 a0_6, .int .i8 a0_7, .int .i8 a0_8, .int .i8 a0_9, .int .i8 a0_10, .int .i8 a0_11, .int .i8 a0_12, .int .i8 a0_13, .int .i8 a0_14, .int .i8 a0_15, .int .i8 a0_16, .int .i8 a0_17, .int .i8 a0_18, .int .i8 a0_19, .int .i8 a0_20, .int .i8 a0_21, .int .i8 a0_22, .int .i8 a0_23, .int .i8 a0_24, .int .i8 a0_25, .int .i8 a0_26, .int .i8 a0_27, .slice Ao4 l0_28.length co4]) (t := 32) ?hr ?_; (case hd => rfl); (case hg => rfl); (case hr => first | (go_simp; done) | (go_simp; rfl)); intro gb583 hg w5 hbox hb; have n0_ := Aside0.mk (Kd.R_below (by (with_reducible repeat (first | apply Kd.R_alloc | apply Kd.R_drewN | apply Kd.R_drew)); exact HO0_28.out) hb); have n1_ := Aside0.mk (Kept.below (S := (fun k_ => P0_28_ k_)) (by repeat (first | (with_reducible first | exact HK.out | apply Kept.alloc | apply Kept.drewN | apply Kept.drew) | exact HK.out)) hb); have n2_ := Aside0.mk (below_step (by repeat (first | (with_reducible first | exact HB.out | apply below_alloc | apply pw_below_drewN | apply below_drew1) | exact HB.out)) hb); have n3_ := Aside0.mk (hbox); have n4_ := Aside0.mk ((by rw [hg]; exact (by first | exact HK.out.1 | exact (show Kept w _ (fun k_ => P0_28_ k_) from by repeat (first | (with_reducible first | exact HK.out | apply Kept.alloc | apply Kept.drewN | apply Kept.drew) | exact HK.out)).1) : w.heap.size ≤ gb583)); have n5_ := Aside0.mk ((by rw [hg]; exact (below_size (by repeat (first | (with_reducible first | exact HB.out | apply below_alloc | apply pw_below_drewN | apply below_drew1) | exact HB.out))) : w0.heap.size ≤ gb583)); clear HO0_28; clear HK; clear HB; have HO0_28 := n0_; have HK := n1_; have HB := n2_; have BK583 := n3_; have GW583 := n4_; have GE583 := n5_; clear n0_ n1_ n2_ n3_ n4_ n5_; clear hb hbox hg; have hcz6_26 : w5.cell? ⟨gb583, 26, none⟩ = some (.int .i8 a0_26) := (blk_cell BK583.out 26).trans rfl; have hcz6_27 : w5.cell? ⟨gb583, 27, none⟩ = some (.int .i8 a0_27) := (blk_cell BK583.out 27).trans rfl; have hcz6_28 : w5.cell? ⟨gb583, 28, none⟩ = some (.slice Ao4 l0_28.length co4) := (blk_cell BK583.out 28).trans rfl; have hfz6_26 := blk_frozen BK583.out 26; have hfz6_27 := blk_frozen BK583.out 27; have hfz6_28 := blk_frozen BK583.out 28) | ((with_reducible refine gate_callee (f := 81) rfl ?_); refine goesL_ (some 8) rfl rfl Tryd.func81 (by kernel_rfl) rfl #[.slice Ao4 l0_28.length co4, .int .i64 a1] rfl (by (try simp only [List.map_toArray, List.map_cons, List.map_nil]); first | done | rfl | (simp only [List.length_drop, List.length_take]; rfl)) ?_; (with_reducible refine (laws_markPairS.calls k (fun k_ => some k_ = (.slice Ao4 l0_28.length co4 : Value).ownBlock) (.slice Ao4 l0_28.length co4) l0_28 a1 t584 t585 w0 _ ?side1 ?side2 A3.out).mono ?_); (case side1 => repeat (first | (with_reducible first | exact HB.out | apply below_alloc | apply pw_below_drewN | apply below_drew1 | refine below_set ?_ GE583.out) | exact HB.out)); (case side2 => exact Kd.R_tight rfl HO0_28.out); rintro e w7 ⟨rfl, hy0, hb, hkp⟩; refine ⟨_, rfl, ?_⟩; have n0_ := Aside0.mk (Kd.R_reok rfl hy0 (fun k_ e_ => HO0_28.out.1 k_ e_)); have n1_ := Aside0.mk (blk_kept (by (with_reducible repeat (first | refine blk_drewN ?_ _ | refine blk_drew ?_ | refine blk_alloc ?_ _)); exact BK583.out) hkp (fun hs_ => (fun e_ => (Kd.R_ne HO0_28.out BK583.out (by decide)) e_) hs_)); have n2_ := Aside0.mk (Kept.then_ (S := (fun k_ => P0_28_ k_)) (by repeat (first | (with_reducible first | exact HK.out | apply Kept.alloc | apply Kept.drewN | apply Kept.drew | refine Kept.setCell ?_ (.inr GW583.out) _) | exact HK.out)) hkp (fun k_ hs_ => (fun e_ => (HO0_28.out.1 k_ e_.symm)) hs_)); have n3_ := Aside0.mk (hb); clear HO0_28; clear BK583; clear HK; clear HB; have HO0_28 := n0_; have BK583 := n1_; have HK := n2_; have HB := n3_; clear n0_ n1_ n2_ n3_; (try clear hb); (try clear hkp); (try clear hy0)))
  go_ret
  exact ⟨by first | rfl | (simp [errW_none, errW_some] <;> rfl) | (simp [*, errW_none, errW_some] <;> rfl), by (with_reducible repeat (first | apply Kd.R_alloc | apply Kd.R_drewN | apply Kd.R_drew)); exact HO0_28.out, by repeat (first | (with_reducible first | exact HB.out | apply below_alloc | apply pw_below_drewN | apply below_drew1 | refine below_set ?_ GE583.out) | exact HB.out), by repeat (first | (with_reducible first | exact HK.out | apply Kept.alloc | apply Kept.drewN | apply Kept.drew | refine Kept.setCell ?_ (.inr GW583.out) _) | exact HK.out)⟩
end Go.Proofs.YticjkfacdmmopaaDoor.Q
namespace Go.Proofs.YticjkfacdmmopaaDoor.Pure
open Go.RowKit Go.Proofs.YticjkfacdmmopaaDoor.Ext Go.Proofs.YticjkfacdmmopaaDoor.Q Go.Proofs.YticjkfacdmmopaaDoorW.PrintWords Go.Proofs.YticjkfacdmmopaaDoorW.PrintLast Go.Proofs.YticjkfacdmmopaaDoorW.PrintMore
set_option linter.unusedVariables false
set_option linter.unusedSimpArgs false
theorem w64 {x : Int} (h0 : -9223372036854775808 ≤ x) (h1 : x ≤ 9223372036854775807) : wrap64 x = x := by unfold wrap64; omega
theorem wrap_succ (n : Nat) (h : n ≤ 4611686018427387904) : wrap64 ((n : Int) + 1) = ((n + 1 : Nat) : Int) := by unfold wrap64; omega
theorem drop_cons (l : List Int) (n : Nat) (h : n < l.length) : l.drop n = rd l n :: l.drop (n + 1) := by
  rw [List.drop_eq_getElem_cons h]
  congr 1
  simp [rd, List.getD_eq_getElem?_getD, List.getElem?_eq_getElem h]
theorem rd_get (l : List Int) (n : Nat) (h : n < l.length) : rd l n = l[n] := by
  simp [rd, List.getD_eq_getElem?_getD, List.getElem?_eq_getElem h]
theorem some_k {k d : Nat} (h : d < k) : ∃ m, k = m + 1 := ⟨k - 1, by omega⟩
theorem take_set_succ (x : List Int) (n : Nat) (v : Int) (h : n < x.length) : (x.set n v).take (n + 1) = x.take n ++ [v] := by
  rw [List.take_succ_eq_append_getElem (by simpa using h), List.take_set, List.set_eq_of_length_le (by simp; omega)]
  simp
theorem eqInt64S_l0 (x y : List Int) (hy : x.length = y.length) (hl : x.length ≤ 4611686018427387904) : ∀ (d k n : Nat), n + d = x.length → d < k →
    laws_eqInt64S.l0 k x y n = some (decide (x.drop n = y.drop n))
  | 0, k, n, hd, hk => by
    obtain ⟨k, rfl⟩ := some_k hk
    simp only [laws_eqInt64S.l0]
    rw [if_neg (by omega), List.drop_eq_nil_of_le (by omega), List.drop_eq_nil_of_le (by omega)]
    rfl
  | d + 1, k, n, hd, hk => by
    obtain ⟨k, rfl⟩ := some_k hk
    simp only [laws_eqInt64S.l0]
    rw [if_pos (by omega), if_pos (by omega), if_pos (by omega), wrap_succ n (by omega), eqInt64S_l0 x y hy hl d k (n + 1) (by omega) (by omega), drop_cons x n (by omega), drop_cons y n (by omega)]
    by_cases h : rd x n = rd y n
    · rw [if_pos h]; congr 1; rw [Bool.eq_iff_iff]; simp [h]
    · rw [if_neg h]; congr 1; symm; simp [h]
theorem eqInt64S_eq {k : Nat} {x y : List Int} (hk : x.length < k) (hl : x.length ≤ 4611686018427387904) : laws_eqInt64S.f k x y = some (decide (x = y)) := by
  unfold laws_eqInt64S.f
  by_cases h : x.length = y.length
  · rw [if_pos (by omega)]
    have := eqInt64S_l0 x y h hl x.length k 0 (by omega) hk
    simpa using this
  · rw [if_neg (by omega)]
    congr 1; symm; simp
    intro e; exact h (by rw [e])
theorem eqInt64S_self {k : Nat} {x : List Int} (hk : x.length < k) (hl : x.length ≤ 4611686018427387904) : laws_eqInt64S.f k x x = some true := by
  rw [eqInt64S_eq hk hl]; simp
def marks (c : Int) : Nat → List Int
  | 0 => []
  | n + 1 => c :: marks (c + 1) n
theorem marks_len (c : Int) (n : Nat) : (marks c n).length = n := by
  induction n generalizing c with
  | zero => rfl
  | succ n ih => simp [marks, ih]
theorem marks_rd (c : Int) (n j : Nat) (h : j < n) : rd (marks c n) j = c + j := by
  induction n generalizing c j with
  | zero => omega
  | succ n ih =>
    cases j with
    | zero => simp [marks, rd]
    | succ j =>
      have := ih (c + 1) j (by omega)
      simp [marks, rd] at this ⊢
      rw [this]; omega
theorem marks_snoc (c : Int) (n : Nat) : marks c (n + 1) = marks c n ++ [c + n] := by
  induction n generalizing c with
  | zero => simp [marks]
  | succ n ih => rw [marks, ih (c + 1)]; simp [marks]; omega
theorem markInt64S_l0 (c : Int) (h0 : 0 ≤ c) (hc : c ≤ 4611686018427387904) : ∀ (d k n : Nat) (x : List Int), n + d = x.length → x.length ≤ 2305843009213693952 → d < k → x.take n = marks c n →
    laws_markInt64S.l0 k x (c + n) n = some (c + x.length, marks c x.length)
  | 0, k, n, x, hd, hx, hk, ht => by
    obtain ⟨k, rfl⟩ := some_k hk
    simp only [laws_markInt64S.l0]
    rw [if_neg (by omega)]
    obtain rfl : n = x.length := by omega
    rw [List.take_length] at ht
    rw [← ht]
  | d + 1, k, n, x, hd, hx, hk, ht => by
    obtain ⟨k, rfl⟩ := some_k hk
    simp only [laws_markInt64S.l0]
    rw [if_pos (by omega), if_pos (by omega), wrap_succ n (by omega), w64 (by omega) (by omega)]
    have := markInt64S_l0 c h0 hc d k (n + 1) (x.set (n : Int).toNat (c + n)) (by simp; omega) (by simpa using hx) (by omega) (by
      rw [Int.toNat_natCast, take_set_succ x n _ (by omega), marks_snoc, ht])
    rw [show c + (n : Int) + 1 = c + ((n + 1 : Nat) : Int) by omega, this]
    simp
theorem markInt64S_eq {k : Nat} {x : List Int} {c : Int} (hk : x.length < k) (hx : x.length ≤ 2305843009213693952) (h0 : 0 ≤ c) (hc : c ≤ 4611686018427387904) : laws_markInt64S.f k x c = some (c + x.length, marks c x.length) := by
  unfold laws_markInt64S.f
  have := markInt64S_l0 c h0 hc x.length k 0 x (by omega) hx hk (by simp [marks])
  simpa using this
theorem heldInt64S_l0 (c : Int) (m : Nat) (h0 : 0 ≤ c) (hc : c ≤ 4611686018427387904) (hm : m ≤ 2305843009213693952) : ∀ (d k n : Nat), n + d = m → d < k →
    laws_heldInt64S.l0 k (marks c m) (c + n) n = some (c + m)
  | 0, k, n, hd, hk => by
    obtain ⟨k, rfl⟩ := some_k hk
    simp only [laws_heldInt64S.l0]
    rw [if_neg (by rw [marks_len]; omega)]
    obtain rfl : n = m := by omega
    rfl
  | d + 1, k, n, hd, hk => by
    obtain ⟨k, rfl⟩ := some_k hk
    simp only [laws_heldInt64S.l0]
    rw [if_pos (by rw [marks_len]; omega), if_pos (by omega), marks_rd c m n (by omega), if_pos rfl, wrap_succ n (by omega), w64 (by omega) (by omega)]
    rw [show c + (n : Int) + 1 = c + ((n + 1 : Nat) : Int) by omega]
    exact heldInt64S_l0 c m h0 hc hm d k (n + 1) (by omega) (by omega)
theorem heldInt64S_eq {k m : Nat} {c : Int} (hk : m < k) (hm : m ≤ 2305843009213693952) (h0 : 0 ≤ c) (hc : c ≤ 4611686018427387904) : laws_heldInt64S.f k (marks c m) c = some (c + m) := by
  unfold laws_heldInt64S.f
  have := heldInt64S_l0 c m h0 hc hm m k 0 (by omega) hk
  simpa using this
theorem in_eq (a b c : Int) : spec_l00In.f a b c = some (inB a b c) := by
  unfold spec_l00In.f inB
  by_cases h : b ≤ a
  · rw [if_pos h]; simp [h]
  · rw [if_neg h]; simp [h]
theorem within_eq (a b c : Int) : impl_within.f a b c = some (inB a b c) := by
  unfold impl_within.f inB
  by_cases h : b ≤ a
  · rw [if_pos h]; simp [h]
  · rw [if_neg h]; simp [h]
end Go.Proofs.YticjkfacdmmopaaDoor.Pure
namespace Go.Proofs.YticjkfacdmmopaaDoor.Ext
end Go.Proofs.YticjkfacdmmopaaDoor.Ext
namespace Go.Proofs.YticjkfacdmmopaaDoor.Q
open Go.Proofs.YticjkfacdmmopaaDoor.Ext
open Go.RowKit Go.Proofs.YticjkfacdmmopaaDoorW.PrintWords Go.Proofs.YticjkfacdmmopaaDoorW.PrintLast Go.Proofs.YticjkfacdmmopaaDoorW.PrintMore
attribute [local go_sem] max2_int min2_int max_two min_two max_three min_three max_four min_four
set_option linter.unusedVariables false
set_option linter.unusedSimpArgs false
def impl_lettersOf.f (a0 : ByteArray) : Option (ByteArray) := (strings_ReplaceAll.f a0 (⟨#[32]⟩ : ByteArray) (⟨#[]⟩ : ByteArray)).bind fun t939 => (some t939)
set_option maxHeartbeats 8000000 in
set_option maxRecDepth 100000 in
theorem impl_lettersOf.calls (a0 : ByteArray) (r : ByteArray) (w : World) (hG : GlobM w) (h : impl_lettersOf.f a0 = some r) :
    Calls Tryd.prog 87 #[.string a0] w fun e w' => e = .returned (.string r) ∧ Below w.heap.size w w' := by
  have HG := Aside0.mk hG
  clear hG
  have HB := Aside0.mk (Below.refl w.heap.size w)
  have H : ((strings_ReplaceAll.f a0 (⟨#[32]⟩ : ByteArray) (⟨#[]⟩ : ByteArray)).bind fun t939 => (some t939)) = some r := h
  clear h
  replace H := Option.bind_eq_some_iff.mp H
  obtain ⟨t939, A20, H⟩ := H
  replace H : (some t939) = some r := H
  have A2 := Aside0.mk A20
  clear A20
  obtain rfl := Option.some.inj H
  go_enter Tryd.func87, Tryd.ntmps87
  go_wp2_with (first | ((with_reducible refine gate_callee (f := 130) rfl ?_); refine goesL_ (some 4) rfl rfl Tryd.func130 (by kernel_rfl) rfl #[.string a0, .string (⟨#[32]⟩ : ByteArray), .string (⟨#[]⟩ : ByteArray)] rfl (by (try simp only [List.map_toArray, List.map_cons, List.map_nil]); first | done | rfl | (simp only [List.length_drop, List.length_take]; rfl)) ?_; (with_reducible refine (strings_ReplaceAll.calls a0 (⟨#[32]⟩ : ByteArray) (⟨#[]⟩ : ByteArray) t939 _ ?sideG A2.out).mono ?_); (case sideG => first | exact HG.out.below (by repeat (first | (with_reducible first | exact HB.out | apply below_alloc | apply pw_below_drewN | apply below_drew1) | exact HB.out)) | exact (HG.out.below (by repeat (first | (with_reducible first | exact HB.out | apply below_alloc | apply pw_below_drewN | apply below_drew1) | exact HB.out))).toM); rintro e w3 ⟨rfl, hb⟩; refine ⟨_, rfl, ?_⟩; have n0_ := Aside0.mk (below_step (by repeat (first | (with_reducible first | exact HB.out | apply below_alloc | apply pw_below_drewN | apply below_drew1) | exact HB.out)) hb); clear HB; have HB := n0_; clear n0_; (try clear hb); (try clear hb2); (try clear hk); (try clear hi)))
  go_ret
  exact ⟨by first | rfl | (simp [errW_none, errW_some] <;> rfl) | (simp [*, errW_none, errW_some] <;> rfl), by repeat (first | (with_reducible first | exact HB.out | apply below_alloc | apply pw_below_drewN | apply below_drew1) | exact HB.out)⟩
end Go.Proofs.YticjkfacdmmopaaDoor.Q
namespace Go.Proofs.YticjkfacdmmopaaDoor.Pure
open Go.RowKit Go.Proofs.YticjkfacdmmopaaDoor.Ext Go.Proofs.YticjkfacdmmopaaDoor.Q Go.Proofs.YticjkfacdmmopaaDoor.Txt Go.Proofs.YticjkfacdmmopaaDoorW.PrintWords Go.Proofs.YticjkfacdmmopaaDoorW.PrintLast Go.Proofs.YticjkfacdmmopaaDoorW.PrintMore
set_option linter.unusedVariables false
set_option linter.unusedSimpArgs false
theorem toList_loop (s : ByteArray) : ∀ (d i : Nat) (r : List UInt8), i + d = s.size → ByteArray.toList.loop s i r = r.reverse ++ s.data.toList.drop i
  | 0, i, r, h => by
    rw [ByteArray.toList.loop, if_neg (by omega), List.drop_eq_nil_of_le (by rw [data_length]; omega), List.append_nil]
  | d + 1, i, r, h => by
    rw [ByteArray.toList.loop, if_pos (by omega), toList_loop s d (i + 1) _ (by omega)]
    have hi : i < s.data.toList.length := by rw [data_length]; omega
    have hi' : i < s.data.size := by simpa using hi
    have e : s.get! i = s.data.toList[i] := by
      show s.data[i]! = _
      rw [getElem!_pos s.data i hi', Array.getElem_toList]
    rw [List.reverse_cons, List.append_assoc, List.drop_eq_getElem_cons hi, e]
    rfl
theorem toList_data (s : ByteArray) : s.toList = s.data.toList := by
  have := toList_loop s s.size 0 [] (by omega)
  simpa [ByteArray.toList] using this
theorem bt_get (s : ByteArray) (i : Nat) (h : i < s.data.toList.length) : bt s (i : Int) = ((s.data.toList.getD i 0).toNat : Int) := by
  have h' : i < s.size := by rw [← data_length]; exact h
  unfold bt
  rw [Int.toNat_natCast, dif_pos h']
  congr 2
  have := Lib.data_getElem? s i h'
  rw [List.getD_eq_getElem?_getD, this]
  rfl
theorem u8_eq (b : UInt8) (n : Nat) (hn : n < 256) : ((b.toNat : Int) = n) ↔ b = UInt8.ofNat n := by
  constructor
  · intro h
    apply UInt8.toNat_inj.1
    rw [UInt8.toNat_ofNat']; omega
  · rintro rfl
    rw [UInt8.toNat_ofNat']; omega
theorem is32 (b : UInt8) : ((b.toNat : Int) = 32) ↔ b = 32 := u8_eq b 32 (by omega)
def okAt (l : List UInt8) (i : Nat) : Bool :=
  if l.getD i 0 = 32 then !(i == 0 || (i + 1 == l.length || l.getD (i - 1) 0 == 32)) else decide (65 ≤ (l.getD i 0).toNat) && decide ((l.getD i 0).toNat ≤ 90)
theorem range_succ (i d : Nat) : List.range' i (d + 1) = i :: List.range' (i + 1) d := by rw [List.range'_succ]
theorem letter_eq (s : ByteArray) (i : Nat) (h : i < s.data.toList.length) : spec_l01Letter.f (bt s i) = some (decide (65 ≤ (s.data.toList.getD i 0).toNat) && decide ((s.data.toList.getD i 0).toNat ≤ 90)) := by
  unfold spec_l01Letter.f
  rw [bt_get s i h]
  by_cases h1 : 65 ≤ (s.data.toList.getD i 0).toNat
  · rw [if_pos (by omega)]; simp only [h1, decide_true, Bool.true_and]; congr 1; rw [Bool.eq_iff_iff]; simp; omega
  · rw [if_neg (by omega)]; simp only [h1, decide_false, Bool.false_and]
theorem isLetter_eq (s : ByteArray) (i : Nat) (h : i < s.data.toList.length) : impl_isLetter.f (bt s i) = some (decide (65 ≤ (s.data.toList.getD i 0).toNat) && decide ((s.data.toList.getD i 0).toNat ≤ 90)) := by
  unfold impl_isLetter.f
  rw [bt_get s i h]
  by_cases h1 : 65 ≤ (s.data.toList.getD i 0).toNat
  · rw [if_pos (by omega)]; simp only [h1, decide_true, Bool.true_and]; congr 1; rw [Bool.eq_iff_iff]; simp; omega
  · rw [if_neg (by omega)]; simp only [h1, decide_false, Bool.false_and]
theorem text_l0 (s : ByteArray) (hs : s.size ≤ 4611686018427387904) : ∀ (d k i : Nat), i + d = s.size → d < k →
    spec_l01Text.l0 k s i = some ((List.range' i d).all (okAt s.data.toList) && decide (s.size ≤ 60))
  | 0, k, i, hd, hk => by
    obtain ⟨k, rfl⟩ := some_k hk
    simp only [spec_l01Text.l0]
    rw [if_neg (by omega)]
    simp only [List.range'_zero, List.all_nil, Bool.true_and]
    congr 1
    rw [Bool.eq_iff_iff]; simp; omega
  | d + 1, k, i, hd, hk => by
    obtain ⟨k, rfl⟩ := some_k hk
    have hlen : s.data.toList.length = s.size := data_length s
    have ih := text_l0 s hs d k (i + 1) (by omega) (by omega)
    simp only [spec_l01Text.l0]
    rw [if_pos (by omega), if_pos (by omega), wrap_succ i (by omega), ih, letter_eq s i (by omega), bt_get s i (by omega)]
    rw [range_succ, List.all_cons]
    by_cases h1 : s.data.toList.getD i 0 = 32
    · rw [if_pos ((is32 _).2 h1)]
      by_cases h2 : i = 0
      · rw [if_pos (by omega)]
        subst h2
        have e : okAt s.data.toList 0 = false := by unfold okAt; rw [if_pos h1]; simp
        rw [e]; simp
      · rw [if_neg (by omega), w64 (x := (s.size : Int) - 1) (by omega) (by omega)]
        by_cases h3 : i + 1 = s.size
        · rw [if_pos (by omega)]
          have h3' : i + 1 = s.data.toList.length := by omega
          have e : okAt s.data.toList i = false := by
            unfold okAt
            rw [if_pos h1, show (i + 1 == s.data.toList.length) = true from by rw [beq_iff_eq]; exact h3']
            simp
          rw [e]; simp
        · rw [if_neg (by omega), w64 (x := (i : Int) - 1) (by omega) (by omega), if_pos (by omega), if_pos (by omega)]
          rw [show (i : Int) - 1 = ((i - 1 : Nat) : Int) by omega, bt_get s (i - 1) (by omega)]
          by_cases h4 : s.data.toList.getD (i - 1) 0 = 32
          · rw [if_pos ((is32 _).2 h4)]
            have e : okAt s.data.toList i = false := by unfold okAt; rw [if_pos h1, h4]; simp
            rw [e]; simp
          · rw [if_neg (fun h => h4 ((is32 _).1 h))]
            have e : okAt s.data.toList i = true := by
              unfold okAt
              rw [if_pos h1]
              have h4' : (s.data.toList.getD (i - 1) 0 == 32) = false := by rw [beq_eq_false_iff_ne]; exact h4
              have h3' : (i + 1 == s.data.toList.length) = false := by rw [beq_eq_false_iff_ne]; omega
              have h2' : (i == 0) = false := by rw [beq_eq_false_iff_ne]; omega
              rw [h4', h3', h2']; rfl
            rw [e]; simp
    · rw [if_neg (fun h => h1 ((is32 _).1 h))]
      have e : okAt s.data.toList i = (decide (65 ≤ (s.data.toList.getD i 0).toNat) && decide ((s.data.toList.getD i 0).toNat ≤ 90)) := by unfold okAt; rw [if_neg h1]
      rw [e, Option.bind_some]
      cases (decide (65 ≤ (s.data.toList.getD i 0).toNat) && decide ((s.data.toList.getD i 0).toNat ≤ 90)) <;> simp
theorem spaced_l0 (s : ByteArray) (hs : s.size ≤ 4294967280) : ∀ (d k i : Nat), i + d = s.size → d < k →
    impl_isSpaced.l0 k s (s.size : Int) i = some ((List.range' i d).all (fun j => okB (s.data.toList.getD j 0)) && !(Lib.contains s.data.toList [32, 32]))
  | 0, k, i, hd, hk => by
    obtain ⟨k, rfl⟩ := some_k hk
    simp only [impl_isSpaced.l0]
    rw [if_neg (by omega)]
    unfold strings_Contains.f
    rw [if_pos (by omega)]
    simp
  | d + 1, k, i, hd, hk => by
    obtain ⟨k, rfl⟩ := some_k hk
    have hlen : s.data.toList.length = s.size := data_length s
    have ih := spaced_l0 s hs d k (i + 1) (by omega) (by omega)
    simp only [impl_isSpaced.l0]
    rw [if_pos (by omega), if_pos (by omega), if_pos (by omega), wrap_succ i (by omega), ih, isLetter_eq s i (by omega), bt_get s i (by omega), Option.bind_some, range_succ, List.all_cons]
    have e : okB (s.data.toList.getD i 0) = ((decide (65 ≤ (s.data.toList.getD i 0).toNat) && decide ((s.data.toList.getD i 0).toNat ≤ 90)) || s.data.toList.getD i 0 == 32) := rfl
    rw [e]
    cases hc : (decide (65 ≤ (s.data.toList.getD i 0).toNat) && decide ((s.data.toList.getD i 0).toNat ≤ 90))
    · simp only [Bool.false_eq_true, if_false, Bool.false_or]
      by_cases h1 : s.data.toList.getD i 0 = 32
      · rw [if_pos ((is32 _).2 h1), h1]; simp
      · rw [if_neg (fun h => h1 ((is32 _).1 h))]
        have : (s.data.toList.getD i 0 == 32) = false := by rw [beq_eq_false_iff_ne]; exact h1
        rw [this]; simp
    · simp
theorem range_all (l : List UInt8) (p : UInt8 → Bool) : (List.range' 0 l.length).all (fun j => p (l.getD j 0)) = l.all p := by
  rw [Bool.eq_iff_iff, List.all_eq_true, List.all_eq_true]
  constructor
  · intro h x hx
    obtain ⟨i, hi, rfl⟩ := List.mem_iff_getElem.1 hx
    have := h i (by simp [List.mem_range']; omega)
    simpa [List.getD_eq_getElem?_getD, hi] using this
  · intro h i hi
    have hi' : i < l.length := by simpa [List.mem_range'] using hi
    have := h _ (List.getElem_mem hi')
    simpa [List.getD_eq_getElem?_getD, hi'] using this
theorem noTwo_iff : ∀ l : List UInt8, noTwo l = true ↔ ∀ i, i + 1 < l.length → ¬ (l.getD i 0 = 32 ∧ l.getD (i + 1) 0 = 32)
  | [] => by simp [noTwo]
  | [a] => by simp [noTwo]
  | a :: b :: l => by
    have ih := noTwo_iff (b :: l)
    simp only [noTwo, Bool.and_eq_true, Bool.not_eq_true', Bool.and_eq_false_iff, beq_eq_false_iff_ne]
    rw [ih]
    constructor
    · rintro ⟨h1, h2⟩ i hi
      cases i with
      | zero => simp; intro ha; rcases h1 with h | h; exact absurd ha h; exact h
      | succ i =>
        have := h2 i (by simp at hi ⊢; omega)
        simpa using this
    · intro h
      refine ⟨?_, fun i hi => ?_⟩
      · have := h 0 (by simp)
        simp at this
        by_cases ha : a = 32
        · exact .inr (this ha)
        · exact .inl ha
      · have := h (i + 1) (by simp at hi ⊢; omega)
        simpa using this
theorem head_iff (l : List UInt8) : (l.head? != some 32) = true ↔ ¬ (0 < l.length ∧ l.getD 0 0 = 32) := by
  cases l with
  | nil => simp
  | cons a t => simp
theorem last_iff (l : List UInt8) : (l.getLast? != some 32) = true ↔ ¬ (0 < l.length ∧ l.getD (l.length - 1) 0 = 32) := by
  rw [List.getLast?_eq_getElem?]
  by_cases h : 0 < l.length
  · have hi : l.length - 1 < l.length := by omega
    rw [List.getD_eq_getElem?_getD, List.getElem?_eq_getElem hi]
    simp [h]
  · have : l = [] := List.length_eq_zero_iff.1 (by omega)
    subst this; simp
theorem okAt_iff (l : List UInt8) : (List.range' 0 l.length).all (okAt l) = ((l.all okB && noTwo l) && (l.head? != some 32 && l.getLast? != some 32)) := by
  rw [Bool.eq_iff_iff]
  simp only [Bool.and_eq_true]
  rw [noTwo_iff, head_iff, last_iff, ← range_all l okB]
  simp only [List.all_eq_true, List.mem_range', Nat.zero_add, Nat.one_mul]
  have hok : ∀ i, okB (l.getD i 0) = true ↔ (l.getD i 0 = 32 ∨ (65 ≤ (l.getD i 0).toNat ∧ (l.getD i 0).toNat ≤ 90)) := by
    intro i
    simp only [okB, Bool.or_eq_true, Bool.and_eq_true, decide_eq_true_eq, beq_iff_eq]
    constructor
    · rintro (h | h)
      · exact .inr h
      · exact .inl h
    · rintro (h | h)
      · exact .inr h
      · exact .inl h
  have hat : ∀ i, okAt l i = true ↔ ((l.getD i 0 = 32 ∧ i ≠ 0 ∧ i + 1 ≠ l.length ∧ l.getD (i - 1) 0 ≠ 32) ∨ (l.getD i 0 ≠ 32 ∧ 65 ≤ (l.getD i 0).toNat ∧ (l.getD i 0).toNat ≤ 90)) := by
    intro i
    unfold okAt
    by_cases h : l.getD i 0 = 32
    · rw [if_pos h]
      simp only [Bool.not_eq_true', Bool.or_eq_false_iff, beq_eq_false_iff_ne, h, true_and, ne_eq, not_true_eq_false, false_and, or_false]
    · rw [if_neg h]
      simp only [Bool.and_eq_true, decide_eq_true_eq, h, false_and, false_or, ne_eq, not_false_eq_true, true_and]
  constructor
  · intro h
    have h' : ∀ i, i < l.length → okAt l i = true := fun i hi => h i ⟨i, hi, rfl⟩
    refine ⟨⟨?_, ?_⟩, ?_, ?_⟩
    · rintro i ⟨_, hj, rfl⟩
      rw [hok]
      rcases (hat i).1 (h' i hj) with h1 | h1
      · exact .inl h1.1
      · exact .inr h1.2
    · rintro i hi ⟨h1, h2⟩
      rcases (hat (i + 1)).1 (h' (i + 1) hi) with h3 | h3
      · exact h3.2.2.2 h1
      · exact h3.1 h2
    · rintro ⟨h1, h2⟩
      rcases (hat 0).1 (h' 0 h1) with h3 | h3
      · exact h3.2.1 rfl
      · exact h3.1 h2
    · rintro ⟨h1, h2⟩
      rcases (hat (l.length - 1)).1 (h' _ (by omega)) with h3 | h3
      · exact h3.2.2.1 (by omega)
      · exact h3.1 h2
  · rintro ⟨⟨h1, h2⟩, h3, h4⟩ i ⟨_, hj, rfl⟩
    rw [hat]
    rcases (hok i).1 (h1 i ⟨i, hj, rfl⟩) with h5 | h5
    · left
      refine ⟨h5, ?_, ?_, ?_⟩
      · rintro rfl; exact h3 ⟨hj, h5⟩
      · intro he
        refine h4 ⟨by omega, ?_⟩
        rw [show l.length - 1 = i by omega]; exact h5
      · intro he
        cases i with
        | zero => exact h3 ⟨hj, h5⟩
        | succ j => exact h2 j hj ⟨he, h5⟩
    · right
      refine ⟨?_, h5⟩
      intro he
      rw [he] at h5
      have : (32 : UInt8).toNat = 32 := rfl
      omega
theorem text_eq (s : ByteArray) (hs : s.size ≤ 4611686018427387904) {k : Nat} (hk : s.size < k) : spec_l01Text.f k s = some (txt s.data.toList) := by
  unfold spec_l01Text.f
  have := text_l0 s hs s.size k 0 (by omega) hk
  rw [show ((0 : Nat) : Int) = 0 from rfl] at this
  rw [this]
  have hlen : s.data.toList.length = s.size := data_length s
  have h2 := okAt_iff s.data.toList
  rw [hlen] at h2
  rw [h2]
  unfold txt
  rw [hlen, Bool.and_comm, ← Bool.and_assoc]
theorem valid_eq (s : ByteArray) {k : Nat} (hk : s.size < k ∨ 60 < k) : impl_ValidText.f k s = some (txt s.data.toList) := by
  have hlen : s.data.toList.length = s.size := data_length s
  unfold impl_ValidText.f
  by_cases h : s.size ≤ 60
  · rw [if_pos (by omega)]
    unfold impl_isSpaced.f
    have := spaced_l0 s (by omega) s.size k 0 (by omega) (by omega)
    rw [show ((0 : Nat) : Int) = 0 from rfl] at this
    rw [this, Option.bind_some]
    have h2 := range_all s.data.toList okB
    rw [hlen] at h2
    rw [h2, contains_two, Bool.not_not]
    unfold txt strings_Trim.f
    rw [hlen, if_pos (show _ ∧ _ from ⟨rfl, by omega⟩), Option.bind_some, toList_data, toList_data]
    have ht := trim_eq_iff s.data.toList
    have hd : decide (s.size ≤ 60) = true := by simpa using h
    rw [hd, Bool.true_and]
    cases (s.data.toList.all okB && noTwo s.data.toList)
    · simp
    · simp only [if_true, Bool.true_and]
      congr 1
      rw [Bool.eq_iff_iff, beq_iff_eq]
      show Lib.trimB s.data.toList 32 = s.data.toList ↔ _
      rw [ht]
      simp
  · rw [if_neg (by omega)]
    unfold txt
    rw [hlen]
    simp [h]
def letters (l : List UInt8) : List UInt8 := l.filter fun b => b != 32
theorem lettersOf_eq (s : ByteArray) (hs : s.size < 4294967281) : impl_lettersOf.f s = some ⟨(letters s.data.toList).toArray⟩ := by
  unfold impl_lettersOf.f strings_ReplaceAll.f
  rw [if_pos (show (_ ∧ _) ∧ _ from ⟨⟨rfl, rfl⟩, hs⟩)]
  rfl
theorem letters_le (l : List UInt8) : (letters l).length ≤ l.length := List.length_filter_le _ _
open Go.RowKit Go.Proofs.YticjkfacdmmopaaDoor.Ext Go.Proofs.YticjkfacdmmopaaDoor.Q Go.Proofs.YticjkfacdmmopaaDoor.Txt Go.Proofs.YticjkfacdmmopaaDoor.Face Go.Proofs.YticjkfacdmmopaaDoorW.PrintWords Go.Proofs.YticjkfacdmmopaaDoorW.PrintLast Go.Proofs.YticjkfacdmmopaaDoorW.PrintMore
set_option maxRecDepth 100000
theorem take26 (L : List Int) (i : Int) (h0 : 0 ≤ i) (h1 : i < 26) : rd [rd L 0, rd L 1, rd L 2, rd L 3, rd L 4, rd L 5, rd L 6, rd L 7, rd L 8, rd L 9, rd L 10, rd L 11, rd L 12, rd L 13, rd L 14, rd L 15, rd L 16, rd L 17, rd L 18, rd L 19, rd L 20, rd L 21, rd L 22, rd L 23, rd L 24, rd L 25] i = rd L i := by
  have e : [rd L 0, rd L 1, rd L 2, rd L 3, rd L 4, rd L 5, rd L 6, rd L 7, rd L 8, rd L 9, rd L 10, rd L 11, rd L 12, rd L 13, rd L 14, rd L 15, rd L 16, rd L 17, rd L 18, rd L 19, rd L 20, rd L 21, rd L 22, rd L 23, rd L 24, rd L 25] = (List.range 26).map fun n : Nat => rd L (n : Int) := rfl
  rw [e]
  unfold rd
  rw [List.getD_eq_getElem?_getD, List.getElem?_map, List.getElem?_range (by omega)]
  simp
theorem rdP_get (P : List Pr) (n : Nat) (h : n < P.length) : rd_T137 P n = P[n] := by
  simp [rd_T137, List.getD_eq_getElem?_getD, List.getElem?_eq_getElem h]
theorem byP_drop (P : List Pr) (n : Nat) (h : n < P.length) (a b : Int) : byP a b (P.drop n) = if (rd_T137 P n).f0 = a ∧ (rd_T137 P n).f1 = b then (rd_T137 P n).f2 else byP a b (P.drop (n + 1)) := by
  rw [List.drop_eq_getElem_cons h, byP, rdP_get P n h]
theorem sby_l0 (L : List Int) (P : List Pr) (hP : ∀ p ∈ P, -128 ≤ p.f2 ∧ p.f2 ≤ 127) (hl : P.length ≤ 4611686018427387904) (a b : Int) : ∀ (d k n : Nat), n + d = P.length → d < k →
    spec_l01By.l0 k a b n (rd L 0) (rd L 1) (rd L 2) (rd L 3) (rd L 4) (rd L 5) (rd L 6) (rd L 7) (rd L 8) (rd L 9) (rd L 10) (rd L 11) (rd L 12) (rd L 13) (rd L 14) (rd L 15) (rd L 16) (rd L 17) (rd L 18) (rd L 19) (rd L 20) (rd L 21) (rd L 22) (rd L 23) (rd L 24) (rd L 25) (rd L 26) (rd L 27) P = some (byP a b (P.drop n))
  | 0, k, n, hd, hk => by
    obtain ⟨k, rfl⟩ := some_k hk
    simp only [spec_l01By.l0]
    rw [if_neg (by omega), List.drop_eq_nil_of_le (by omega)]
    rfl
  | d + 1, k, n, hd, hk => by
    obtain ⟨k, rfl⟩ := some_k hk
    have hm := hP (rd_T137 P n) (by rw [rdP_get P n (by omega)]; exact List.getElem_mem _)
    simp only [spec_l01By.l0]
    rw [if_pos (by omega), if_pos (by omega), wrap_succ n (by omega), sby_l0 L P hP hl a b d k (n + 1) (by omega) (by omega), byP_drop P n (by omega), w64 (x := (rd_T137 P n).f2) (by omega) (by omega)]
    by_cases h1 : (rd_T137 P n).f0 = a
    · by_cases h2 : (rd_T137 P n).f1 = b
      · rw [if_pos h1, if_pos h2, if_pos ⟨h1, h2⟩]
      · rw [if_pos h1, if_neg h2, if_neg (fun h => h2 h.2)]
    · rw [if_neg h1, if_neg (fun h => h1 h.1)]
structure FaceOk (L : List Int) (P : List Pr) : Prop where
  len : L.length = 28
  few : P.length ≤ 12
  rng : ∀ p ∈ P, -128 ≤ p.f2 ∧ p.f2 ≤ 127
  shape : shapeB L P = true
theorem faceOk {L : List Int} {P : List Pr} (hl : L.length = 28) (hr : rngB L P = true) (hf : faceB L P = true) : FaceOk L P := by
  unfold faceB at hf
  simp only [Bool.and_eq_true, decide_eq_true_eq] at hf
  exact ⟨hl, hf.1, fun p hp => (rngP hr p hp).2.2, hf.2⟩
theorem sby_eq {L : List Int} {P : List Pr} (F : FaceOk L P) (a b : Int) {k : Nat} (hk : 12 < k) : spec_l01By.f k (rd L 0) (rd L 1) (rd L 2) (rd L 3) (rd L 4) (rd L 5) (rd L 6) (rd L 7) (rd L 8) (rd L 9) (rd L 10) (rd L 11) (rd L 12) (rd L 13) (rd L 14) (rd L 15) (rd L 16) (rd L 17) (rd L 18) (rd L 19) (rd L 20) (rd L 21) (rd L 22) (rd L 23) (rd L 24) (rd L 25) (rd L 26) (rd L 27) P a b = some (byP a b P) := by
  have := F.few
  unfold spec_l01By.f
  have h := sby_l0 L P F.rng (by omega) a b P.length k 0 (by omega) (by omega)
  rwa [show ((0 : Nat) : Int) = 0 from rfl, List.drop_zero] at h
theorem letter_at {L : List Int} {P : List Pr} (F : FaceOk L P) (c : UInt8) (h0 : 65 ≤ c.toNat) (h1 : c.toNat ≤ 90) : wrap64 (rd [rd L 0, rd L 1, rd L 2, rd L 3, rd L 4, rd L 5, rd L 6, rd L 7, rd L 8, rd L 9, rd L 10, rd L 11, rd L 12, rd L 13, rd L 14, rd L 15, rd L 16, rd L 17, rd L 18, rd L 19, rd L 20, rd L 21, rd L 22, rd L 23, rd L 24, rd L 25] (((c.toNat : Int) - 65) % 256)) = wB L c := by
  have e : ((c.toNat : Int) - 65) % 256 = (c.toNat : Int) - 65 := by omega
  have := wB_in F.len F.shape c h0 h1
  rw [e, take26 L _ (by omega) (by omega)]
  exact w64 (by unfold wB at this; omega) (by unfold wB at this; omega)
theorem fletter_eq {L : List Int} {P : List Pr} (F : FaceOk L P) (c : UInt8) (h0 : 65 ≤ c.toNat) (h1 : c.toNat ≤ 90) : impl_Face_letter.f (rd L 0) (rd L 1) (rd L 2) (rd L 3) (rd L 4) (rd L 5) (rd L 6) (rd L 7) (rd L 8) (rd L 9) (rd L 10) (rd L 11) (rd L 12) (rd L 13) (rd L 14) (rd L 15) (rd L 16) (rd L 17) (rd L 18) (rd L 19) (rd L 20) (rd L 21) (rd L 22) (rd L 23) (rd L 24) (rd L 25) (rd L 26) (rd L 27) P (c.toNat : Int) = some (wB L c) := by
  unfold impl_Face_letter.f
  rw [if_pos (by omega), if_pos (by omega), letter_at F c h0 h1]
def prev (t : List UInt8) (i : Nat) : UInt8 := if i = 0 then 32 else t.getD (i - 1) 0
theorem prev_zero (t : List UInt8) : prev t 0 = 32 := rfl
theorem prev_succ (t : List UInt8) (i : Nat) : prev t (i + 1) = t.getD i 0 := rfl
theorem getD_mem {t : List UInt8} {i : Nat} (h : i < t.length) : t.getD i 0 ∈ t := by
  rw [List.getD_eq_getElem?_getD, List.getElem?_eq_getElem h]
  exact List.getElem_mem h
theorem drop_foldl (L : List Int) (P : List Pr) (t : List UInt8) (i : Nat) (h : i < t.length) (s : St) : (t.drop i).foldl (Face.step L P) s = (t.drop (i + 1)).foldl (Face.step L P) (Face.step L P s (t.getD i 0)) := by
  rw [List.drop_eq_getElem_cons h, List.foldl_cons, List.getD_eq_getElem?_getD, List.getElem?_eq_getElem h]
  rfl
theorem step_blank (L : List Int) (P : List Pr) (xs : List Int) (w : Int) (p : UInt8) : Face.step L P (xs, w, p) 32 = (xs, w + rd L 26, 32) := by
  unfold Face.step; rw [if_pos rfl]
theorem step_letter (L : List Int) (P : List Pr) (xs : List Int) (w : Int) (p c : UInt8) (h : c ≠ 32) : Face.step L P (xs, w, p) c = (xs ++ [w + gapB L P p c], w + gapB L P p c + wB L c, c) := by
  unfold Face.step; rw [if_neg h]
theorem gapB_blank (L : List Int) (P : List Pr) (c : UInt8) : gapB L P 32 c = 0 := by unfold gapB; rw [if_pos rfl]
theorem gapB_letter (L : List Int) (P : List Pr) (p c : UInt8) (h : p ≠ 32) : gapB L P p c = rd L 27 + byP p.toNat c.toNat P := by unfold gapB; rw [if_neg h]
def cut (t : List UInt8) (a b : Nat) : List UInt8 := (t.drop a).take (b - a)
def mkB (l : List UInt8) : ByteArray := ⟨l.toArray⟩
theorem mkB_data (l : List UInt8) : (mkB l).data.toList = l := rfl
theorem extract_cut (s : ByteArray) (a b : Nat) (hb : b ≤ s.size) : s.extract a b = mkB (cut s.data.toList a b) := by
  unfold mkB cut
  apply ByteArray.ext
  apply Array.toList_inj.1
  rw [ByteArray.data_extract, Array.toList_extract]
theorem cut_full (t : List UInt8) (a : Nat) : cut t a t.length = t.drop a := by
  unfold cut
  rw [List.take_of_length_le (by simp)]
theorem cut_drop (t : List UInt8) (a i : Nat) (h : a ≤ i) : t.drop a = cut t a i ++ t.drop i := by
  unfold cut
  have := List.take_append_drop (i - a) (t.drop a)
  rw [List.drop_drop, show a + (i - a) = i by omega] at this
  exact this.symm
theorem cut_succ (t : List UInt8) (a i : Nat) (h : a ≤ i) (hi : i < t.length) : cut t a (i + 1) = cut t a i ++ [t.getD i 0] := by
  unfold cut
  rw [show i + 1 - a = (i - a) + 1 by omega, List.take_succ_eq_append_getElem (by simp; omega)]
  congr 1
  simp [List.getD_eq_getElem?_getD, show a + (i - a) = i by omega, List.getElem?_eq_getElem hi]
theorem spl_cut (m r : List UInt8) (h : ∀ b ∈ m, b ≠ 32) : spl 32 (m ++ 32 :: r) = m :: spl 32 r := by
  induction m with
  | nil => rw [List.nil_append, spl, if_pos rfl]
  | cons c m ih =>
    rw [List.cons_append, spl, if_neg (h c (by simp)), ih (fun b hb => h b (by simp [hb]))]
theorem spl_word (m : List UInt8) (h : ∀ b ∈ m, b ≠ 32) : spl 32 m = [m] := by
  induction m with
  | nil => rfl
  | cons c m ih => rw [spl, if_neg (h c (by simp)), ih (fun b hb => h b (by simp [hb]))]
theorem spl_mem (l : List UInt8) : ∀ x ∈ spl 32 l, ∀ b ∈ x, b ∈ l ∧ b ≠ 32 := by
  induction l with
  | nil => intro x hx b hb; simp [spl] at hx; subst hx; simp at hb
  | cons c l ih =>
    intro x hx b hb
    rw [spl] at hx
    split at hx
    · rcases List.mem_cons.1 hx with rfl | hx
      · simp at hb
      · exact ⟨List.mem_cons_of_mem _ (ih x hx b hb).1, (ih x hx b hb).2⟩
    · rename_i hc
      split at hx
      · simp at hx; subst hx; simp at hb; subst hb; exact ⟨by simp, hc⟩
      · rename_i y ys he
        rw [he] at ih
        rcases List.mem_cons.1 hx with rfl | hx
        · rcases List.mem_cons.1 hb with rfl | hb
          · exact ⟨by simp, hc⟩
          · exact ⟨List.mem_cons_of_mem _ (ih y (by simp) b hb).1, (ih y (by simp) b hb).2⟩
        · exact ⟨List.mem_cons_of_mem _ (ih x (by simp [hx]) b hb).1, (ih x (by simp [hx]) b hb).2⟩
theorem spl_len (l : List UInt8) : (spl 32 l).length = l.count 32 + 1 := by
  induction l with
  | nil => rfl
  | cons c l ih =>
    rw [spl]
    split
    · rename_i h; subst h; simp [ih]
    · rename_i h
      rw [List.count_cons_of_ne (by simpa using h)]
      split
      · rename_i he; rw [he] at ih; simp at ih
      · rename_i he; rw [he] at ih; simpa using ih
theorem spl_size (l : List UInt8) : ∀ x ∈ spl 32 l, x.length ≤ l.length := by
  induction l with
  | nil => intro x hx; simp [spl] at hx; subst hx; simp
  | cons c l ih =>
    intro x hx
    rw [spl] at hx
    split at hx
    · rcases List.mem_cons.1 hx with rfl | hx
      · simp
      · have := ih x hx; simp; omega
    · split at hx
      · simp at hx; subst hx; simp
      · rename_i y ys he
        rw [he] at ih
        rcases List.mem_cons.1 hx with rfl | hx
        · have := ih y (by simp); simp; omega
        · have := ih x (by simp [hx]); simp; omega
theorem split_l0 (s : ByteArray) (hs : s.size ≤ 4611686018427) : ∀ (d k a i : Nat) (acc : List ByteArray), i + d = s.size → a ≤ i → d < k → acc.length ≤ i → (∀ b ∈ cut s.data.toList a i, b ≠ 32) →
    spec_l01Split.l0 k s 32 acc a i = some (acc ++ (spl 32 (s.data.toList.drop a)).map mkB)
  | 0, k, a, i, acc, hd, ha, hk, hacc, hno => by
    obtain ⟨k, rfl⟩ := some_k hk
    have hlen : s.data.toList.length = s.size := data_length s
    simp only [spec_l01Split.l0]
    obtain rfl : i = s.data.toList.length := by omega
    rw [if_neg (by omega), if_pos (by omega), if_pos (by omega), if_pos (by omega), Int.toNat_natCast, extract_cut s a s.size (by omega), ← hlen]
    rw [cut_full] at hno ⊢
    rw [spl_word _ hno]
    rfl
  | d + 1, k, a, i, acc, hd, ha, hk, hacc, hno => by
    obtain ⟨k, rfl⟩ := some_k hk
    have hlen : s.data.toList.length = s.size := data_length s
    have hin : i < s.data.toList.length := by omega
    simp only [spec_l01Split.l0]
    rw [if_pos (by omega), if_pos (by omega), bt_get s i hin, wrap_succ i (by omega)]
    by_cases h : s.data.toList.getD i 0 = 32
    · rw [if_pos ((is32 _).2 h), if_pos (by omega), if_pos (by omega), if_pos (by omega), if_pos (by omega), Int.toNat_natCast, Int.toNat_natCast, extract_cut s a i (by omega)]
      rw [split_l0 s hs d k (i + 1) (i + 1) _ (by omega) (by omega) (by omega) (by rw [List.length_append, List.length_singleton]; omega) (by intro b hb; simp [cut] at hb)]
      rw [cut_drop s.data.toList a i ha, List.drop_eq_getElem_cons hin, show s.data.toList[i] = 32 by (rw [← h, List.getD_eq_getElem?_getD, List.getElem?_eq_getElem hin]; rfl), spl_cut _ _ hno]
      simp
    · rw [if_neg (fun hh => h ((is32 _).1 hh))]
      refine split_l0 s hs d k a (i + 1) acc (by omega) (by omega) (by omega) (by omega) ?_
      intro b hb
      rw [cut_succ _ _ _ ha hin] at hb
      rcases List.mem_append.1 hb with hb | hb
      · exact hno b hb
      · rw [List.mem_singleton] at hb
        rw [hb]; exact h
def words (t : List UInt8) : List (List UInt8) := if t = [] then [] else spl 32 t
theorem inter_words (t : List UInt8) : inter (words t) = t := by
  unfold words
  split
  · rename_i h; subst h; rfl
  · exact inter_spl t
theorem words_eq (s : ByteArray) (hs : s.size ≤ 60) {k : Nat} (hk : 61 < k) : spec_l01Words.f k s = some ((words s.data.toList).map mkB) := by
  unfold spec_l01Words.f words
  rw [toList_data]
  by_cases h : s.data.toList = []
  · rw [if_pos h, if_pos h]; rfl
  · rw [if_neg h, if_neg h]
    unfold spec_l01Split.f
    have := split_l0 s (by omega) s.size k 0 0 [] (by omega) (by omega) (by omega) (by simp) (by intro b hb; simp [cut] at hb)
    rw [show ((0 : Nat) : Int) = 0 from rfl] at this
    rw [this]
    rfl
theorem words_len (t : List UInt8) (h : t.length ≤ 60) : (words t).length ≤ 61 := by
  unfold words
  split
  · simp
  · rw [spl_len]; have := List.count_le_length (a := (32 : UInt8)) (l := t); omega
theorem words_size (t : List UInt8) : ∀ x ∈ words t, x.length ≤ t.length := by
  unfold words
  split
  · simp
  · exact spl_size t
def lts (t : List UInt8) : Prop := ∀ b ∈ t, 65 ≤ b.toNat ∧ b.toNat ≤ 90
theorem words_lts (t : List UInt8) (ht : okTxt t) : ∀ x ∈ words t, lts x := by
  unfold words
  split
  · simp
  · intro x hx b hb
    have := spl_mem t x hx b hb
    exact (ht b this.1).resolve_left this.2
theorem letter_ok {b : UInt8} (h : 65 ≤ b.toNat ∧ b.toNat ≤ 90) : b ≠ 32 := by
  rintro rfl
  have : (32 : UInt8).toNat = 32 := rfl
  omega
theorem run_shift (L : List Int) (P : List Pr) (t : List UInt8) : ∀ (ys zs : List Int) (w v : Int) (p : UInt8), (t.foldl (Face.step L P) (ys, w + v, p)).2.1 = w + (t.foldl (Face.step L P) (zs, v, p)).2.1 := by
  induction t with
  | nil => intro ys zs w v p; rfl
  | cons c t ih =>
    intro ys zs w v p
    rw [List.foldl_cons, List.foldl_cons]
    by_cases h : c = 32
    · subst h
      rw [step_blank, step_blank, Int.add_assoc]
      exact ih _ _ _ _ _
    · rw [step_letter L P _ _ _ _ h, step_letter L P _ _ _ _ h]
      rw [show w + v + gapB L P p c + wB L c = w + (v + gapB L P p c + wB L c) by omega]
      exact ih _ _ _ _ _
end Go.Proofs.YticjkfacdmmopaaDoor.Pure
namespace Go.Proofs.YticjkfacdmmopaaDoor.Ext
end Go.Proofs.YticjkfacdmmopaaDoor.Ext
namespace Go.Proofs.YticjkfacdmmopaaDoor.Q
open Go.Proofs.YticjkfacdmmopaaDoor.Ext
open Go.RowKit Go.Proofs.YticjkfacdmmopaaDoorW.PrintWords Go.Proofs.YticjkfacdmmopaaDoorW.PrintLast Go.Proofs.YticjkfacdmmopaaDoorW.PrintMore
attribute [local go_sem] max2_int min2_int max_two min_two max_three min_three max_four min_four
set_option linter.unusedVariables false
set_option linter.unusedSimpArgs false
end Go.Proofs.YticjkfacdmmopaaDoor.Q
namespace Go.Proofs.YticjkfacdmmopaaDoor.Pure
open Go.RowKit Go.Proofs.YticjkfacdmmopaaDoor.Ext Go.Proofs.YticjkfacdmmopaaDoor.Q Go.Proofs.YticjkfacdmmopaaDoor.Txt Go.Proofs.YticjkfacdmmopaaDoor.Face Go.Proofs.YticjkfacdmmopaaDoorW.PrintWords Go.Proofs.YticjkfacdmmopaaDoorW.PrintLast Go.Proofs.YticjkfacdmmopaaDoorW.PrintMore
set_option linter.unusedVariables false
set_option linter.unusedSimpArgs false
set_option maxRecDepth 100000
theorem inter_drop (ws : List (List UInt8)) (j : Nat) (h : j < ws.length) : inter (ws.drop j) = if j + 1 = ws.length then ws.getD j [] else ws.getD j [] ++ 32 :: inter (ws.drop (j + 1)) := by
  rw [List.drop_eq_getElem_cons h, show ws[j] = ws.getD j [] by rw [List.getD_eq_getElem?_getD, List.getElem?_eq_getElem h]; rfl]
  split
  · rw [List.drop_eq_nil_of_le (by omega)]; rfl
  · rw [List.drop_eq_getElem_cons (show j + 1 < ws.length by omega)]; rfl
theorem ws_mem {ws : List (List UInt8)} {j : Nat} (h : j < ws.length) : ws.getD j [] ∈ ws := by
  rw [List.getD_eq_getElem?_getD, List.getElem?_eq_getElem h]
  exact List.getElem_mem h
theorem rdOf_mk (ws : List (List UInt8)) (j : Nat) (h : j < ws.length) : rdOf ByteArray.empty (ws.map mkB) (j : Int) = mkB (ws.getD j []) := by
  unfold rdOf
  rw [Int.toNat_natCast, List.getD_eq_getElem?_getD, List.getElem?_map, List.getElem?_eq_getElem h, List.getD_eq_getElem?_getD, List.getElem?_eq_getElem h]
  rfl
theorem mkB_size (x : List UInt8) : (mkB x).size = x.length := by rw [← data_length]; rfl
theorem word_run (L : List Int) (P : List Pr) (x : List UInt8) (xs : List Int) (w : Int) : ∃ ys q, x.foldl (Face.step L P) (xs, w, 32) = (ys, w + lineOf L P x, q) := by
  have h := run_shift L P x xs [] w 0 32
  rw [Int.add_zero] at h
  exact ⟨_, _, by rw [lineOf, Face.run, ← h]⟩
theorem lts_ok {x : List UInt8} (h : lts x) : okTxt x := fun b hb => .inr (h b hb)
theorem splaces_l1 {L : List Int} {P : List Pr} (F : FaceOk L P) (WS : List ByteArray) (x : List UInt8) (j : Nat) (hj : j < WS.length) (hWS : WS.length ≤ 61) (hx : rdOf ByteArray.empty WS (j : Int) = mkB x) (hx60 : x.length ≤ 60) (hl : lts x) (k : Nat) (hk : 12 < k) : ∀ (d i : Nat) (xs ds : List Int) (w : Int), i + d = x.length → xs.length ≤ 4000 + i → ds.length ≤ 4000 + i → -300000 - 60 * (i : Int) ≤ w ∧ w ≤ 300000 + 60 * i →
    spec_l01Places.l1 (k + d + 1) WS xs ds w j i (rd L 0) (rd L 1) (rd L 2) (rd L 3) (rd L 4) (rd L 5) (rd L 6) (rd L 7) (rd L 8) (rd L 9) (rd L 10) (rd L 11) (rd L 12) (rd L 13) (rd L 14) (rd L 15) (rd L 16) (rd L 17) (rd L 18) (rd L 19) (rd L 20) (rd L 21) (rd L 22) (rd L 23) (rd L 24) (rd L 25) (rd L 26) (rd L 27) P = spec_l01Places.l0 k WS ((x.drop i).foldl (Face.step L P) (xs, w, prev x i)).1 (ds ++ (x.drop i).map (wB L)) ((x.drop i).foldl (Face.step L P) (xs, w, prev x i)).2.1 ((j + 1 : Nat) : Int) (rd L 0) (rd L 1) (rd L 2) (rd L 3) (rd L 4) (rd L 5) (rd L 6) (rd L 7) (rd L 8) (rd L 9) (rd L 10) (rd L 11) (rd L 12) (rd L 13) (rd L 14) (rd L 15) (rd L 16) (rd L 17) (rd L 18) (rd L 19) (rd L 20) (rd L 21) (rd L 22) (rd L 23) (rd L 24) (rd L 25) (rd L 26) (rd L 27) P
  | 0, i, xs, ds, w, hd, h1, h2, hw => by
    rw [spec_l01Places.l1]
    rw [if_pos (by omega), if_pos (by omega), hx, if_neg (by rw [mkB_size]; omega), wrap_succ j (by omega), List.drop_eq_nil_of_le (by omega), List.map_nil, List.append_nil]
    rfl
  | d + 1, i, xs, ds, w, hd, h1, h2, hw => by
    have hlen : (mkB x).data.toList.length = x.length := rfl
    have hin : i < x.length := by omega
    have hin' : i < (mkB x).data.toList.length := hin
    have hgp := face_gap F.shape
    have e27 : wrap64 (rd L 27) = rd L 27 := w64 (by omega) (by omega)
    rw [drop_foldl L P _ i hin, List.drop_eq_getElem_cons hin, List.map_cons, show x[i] = x.getD i 0 by rw [List.getD_eq_getElem?_getD, List.getElem?_eq_getElem hin]; rfl]
    obtain ⟨c, hc⟩ : ∃ c, x.getD i 0 = c := ⟨_, rfl⟩
    have hlc := hl c (hc ▸ getD_mem hin)
    have ih := fun xs ds w h1 h2 hw => splaces_l1 F WS x j hj hWS hx hx60 hl k hk d (i + 1) xs ds w (by omega) h1 h2 hw
    rw [prev_succ, hc] at ih
    rw [hc]
    have hwB := wB_in F.len F.shape c hlc.1 hlc.2
    have hb : bt (mkB x) (i : Int) = (c.toNat : Int) := by rw [bt_get (mkB x) i hin', mkB_data, hc]
    rw [spec_l01Places.l1]
    rw [if_pos (by omega), if_pos (by omega), hx, if_pos (by rw [mkB_size]; omega), hb, wrap_succ i (by omega), letter_at F c hlc.1 hlc.2, step_letter L P _ _ _ _ (letter_ok hlc)]
    by_cases h0 : i = 0
    · subst h0
      rw [if_neg (by omega), if_pos (by omega), if_pos (by omega), if_pos (by omega), if_pos (by omega), if_pos (by omega), prev_zero, gapB_blank, Int.add_zero, w64 (x := w + wB L c) (by omega) (by omega)]
      rw [show k + (d + 1) = k + d + 1 by omega, ih (xs ++ [w]) (ds ++ [wB L c]) (w + wB L c) (by rw [List.length_append, List.length_singleton]; omega) (by rw [List.length_append, List.length_singleton]; omega) (by omega)]
      rw [List.append_assoc]
      rfl
    · have e1 : wrap64 ((i : Int) - 1) = ((i - 1 : Nat) : Int) := by unfold wrap64; omega
      have hin1 : i - 1 < x.length := by omega
      obtain ⟨p, hp⟩ : ∃ p, x.getD (i - 1) 0 = p := ⟨_, rfl⟩
      have hpm := hl p (hp ▸ getD_mem hin1)
      have hpr : prev x i = p := by unfold prev; rw [if_neg h0, hp]
      have hb1 : bt (mkB x) ((i - 1 : Nat) : Int) = (p.toNat : Int) := by rw [bt_get (mkB x) (i - 1) hin1, mkB_data, hp]
      have hg := gapB_in F.shape p c
      rw [gapB_letter L P p c (letter_ok hpm)] at hg
      rw [if_pos (by omega), e1, if_pos (by omega), if_pos (by rw [mkB_size]; omega), if_pos (by omega), hb1, sby_eq F _ _ (by omega), Option.bind_some, if_pos (by omega), if_pos (by omega), if_pos (by omega), if_pos (by omega), e27, w64 (x := rd L 27 + byP p.toNat c.toNat P) (by omega) (by omega), w64 (x := w + (rd L 27 + byP p.toNat c.toNat P)) (by omega) (by omega), w64 (x := w + (rd L 27 + byP p.toNat c.toNat P) + wB L c) (by omega) (by omega), hpr, gapB_letter L P p c (letter_ok hpm)]
      rw [show k + (d + 1) = k + d + 1 by omega, ih _ _ _ (by rw [List.length_append, List.length_singleton]; omega) (by rw [List.length_append, List.length_singleton]; omega) (by omega)]
      rw [List.append_assoc]
      rfl
theorem run_len (L : List Int) (P : List Pr) (t : List UInt8) : ∀ s : St, (t.foldl (Face.step L P) s).1.length ≤ s.1.length + t.length := by
  induction t with
  | nil => intro s; simp
  | cons c t ih =>
    intro s
    rw [List.foldl_cons]
    have h := ih (Face.step L P s c)
    have h2 : (Face.step L P s c).1.length ≤ s.1.length + 1 := by
      unfold Face.step
      split
      · simp
      · simp
    rw [List.length_cons]
    omega
theorem lets_lts {x : List UInt8} (h : lts x) : lets x = x := by
  unfold lets
  rw [List.filter_eq_self]
  intro b hb
  simpa using letter_ok (h b hb)
theorem splaces_l0 {L : List Int} {P : List Pr} (F : FaceOk L P) (ws : List (List UInt8)) (hws : ∀ x ∈ ws, lts x ∧ x.length ≤ 60) (hl : ws.length ≤ 61) : ∀ (d k j : Nat) (xs ds : List Int) (w : Int), j + d = ws.length → 64 * d + 14 < k → xs.length ≤ 60 * j → ds.length ≤ 60 * j → -3700 * (j : Int) ≤ w ∧ w ≤ 3700 * j →
    spec_l01Places.l0 k (ws.map mkB) xs ds w j (rd L 0) (rd L 1) (rd L 2) (rd L 3) (rd L 4) (rd L 5) (rd L 6) (rd L 7) (rd L 8) (rd L 9) (rd L 10) (rd L 11) (rd L 12) (rd L 13) (rd L 14) (rd L 15) (rd L 16) (rd L 17) (rd L 18) (rd L 19) (rd L 20) (rd L 21) (rd L 22) (rd L 23) (rd L 24) (rd L 25) (rd L 26) (rd L 27) P = some (((inter (ws.drop j)).foldl (Face.step L P) (xs, w + (if j = 0 then 0 else rd L 26), 32)).1, ds ++ (lets (inter (ws.drop j))).map (wB L))
  | 0, k, j, xs, ds, w, hd, hk, h1, h2, hw => by
    obtain ⟨k, rfl⟩ := some_k hk
    rw [spec_l01Places.l0]
    rw [if_neg (by rw [List.length_map]; omega), List.drop_eq_nil_of_le (by omega)]
    simp [inter, lets]
  | d + 1, k, j, xs, ds, w, hd, hk, h1, h2, hw => by
    have hj : j < ws.length := by omega
    have hm := hws _ (ws_mem hj)
    have hm2 := hm.2
    have hsp := face_sp F.shape
    have e26 : wrap64 (rd L 26) = rd L 26 := w64 (by omega) (by omega)
    have hin := line_in F.len F.shape (ws.getD j []) (lts_ok hm.1)
    obtain ⟨K, rfl⟩ : ∃ K, k = (K + (ws.getD j []).length + 1) + 1 + 1 := ⟨k - 2 - (ws.getD j []).length - 1, by omega⟩
    have hsp2 : (0 : Int) ≤ (if j = 0 then 0 else rd L 26) ∧ (if j = 0 then 0 else rd L 26) ≤ 40 := by split <;> omega
    have hnext : spec_l01Places.l0 ((K + (ws.getD j []).length + 1) + 1 + 1) (ws.map mkB) xs ds w j (rd L 0) (rd L 1) (rd L 2) (rd L 3) (rd L 4) (rd L 5) (rd L 6) (rd L 7) (rd L 8) (rd L 9) (rd L 10) (rd L 11) (rd L 12) (rd L 13) (rd L 14) (rd L 15) (rd L 16) (rd L 17) (rd L 18) (rd L 19) (rd L 20) (rd L 21) (rd L 22) (rd L 23) (rd L 24) (rd L 25) (rd L 26) (rd L 27) P = spec_l01Places.l1 (K + (ws.getD j []).length + 1) (ws.map mkB) xs ds (w + (if j = 0 then 0 else rd L 26)) j 0 (rd L 0) (rd L 1) (rd L 2) (rd L 3) (rd L 4) (rd L 5) (rd L 6) (rd L 7) (rd L 8) (rd L 9) (rd L 10) (rd L 11) (rd L 12) (rd L 13) (rd L 14) (rd L 15) (rd L 16) (rd L 17) (rd L 18) (rd L 19) (rd L 20) (rd L 21) (rd L 22) (rd L 23) (rd L 24) (rd L 25) (rd L 26) (rd L 27) P := by
      rw [spec_l01Places.l0]
      rw [if_pos (by rw [List.length_map]; omega), e26]
      by_cases h0 : j = 0
      · subst h0
        rw [if_neg (by omega), spec_l01Places.j1, if_pos rfl, Int.add_zero]
      · rw [if_pos (by omega), w64 (x := w + rd L 26) (by omega) (by omega), spec_l01Places.j1, if_neg h0]
    rw [hnext]
    have hl1 := splaces_l1 F (ws.map mkB) (ws.getD j []) j (by rw [List.length_map]; omega) (by rw [List.length_map]; omega) (rdOf_mk ws j hj) hm2 hm.1 K (by omega) (ws.getD j []).length 0 xs ds (w + (if j = 0 then 0 else rd L 26)) (by omega) (by omega) (by omega) (by omega)
    rw [show ((0 : Nat) : Int) = 0 from rfl] at hl1
    rw [hl1, List.drop_zero, prev_zero, inter_drop ws j hj]
    obtain ⟨ys, q, hr⟩ := word_run L P (ws.getD j []) xs (w + (if j = 0 then 0 else rd L 26))
    have hrl := run_len L P (ws.getD j []) (xs, w + (if j = 0 then 0 else rd L 26), 32)
    rw [hr] at hrl
    simp only at hrl
    rw [hr]
    dsimp only
    rw [splaces_l0 F ws hws hl d K (j + 1) _ _ _ (by omega) (by omega) (by omega) (by rw [List.length_append, List.length_map]; omega) (by omega)]
    by_cases hlast : j + 1 = ws.length
    · rw [if_pos hlast, List.drop_eq_nil_of_le (show ws.length ≤ j + 1 by omega), hr, lets_lts hm.1]
      simp [inter, lets]
    · rw [if_neg hlast, List.foldl_append, hr, List.foldl_cons, step_blank, if_neg (show ¬ (j + 1 = 0) by omega)]
      congr 2
      rw [List.append_assoc, ← List.map_append]
      congr 2
      conv => lhs; rw [← lets_lts hm.1]
      unfold lets
      rw [List.filter_append]
      simp
theorem splaces_eq {L : List Int} {P : List Pr} (F : FaceOk L P) (s : ByteArray) (hs : s.size ≤ 60) (ht : okTxt s.data.toList) {k : Nat} (hk : 4000 < k) : spec_l01Places.f k (rd L 0) (rd L 1) (rd L 2) (rd L 3) (rd L 4) (rd L 5) (rd L 6) (rd L 7) (rd L 8) (rd L 9) (rd L 10) (rd L 11) (rd L 12) (rd L 13) (rd L 14) (rd L 15) (rd L 16) (rd L 17) (rd L 18) (rd L 19) (rd L 20) (rd L 21) (rd L 22) (rd L 23) (rd L 24) (rd L 25) (rd L 26) (rd L 27) P ((words s.data.toList).map mkB) = some (placesOf L P s.data.toList, (lets s.data.toList).map (wB L)) := by
  have hlen : s.data.toList.length = s.size := data_length s
  have hwl := words_len s.data.toList (by omega)
  unfold spec_l01Places.f
  have h := splaces_l0 F (words s.data.toList) (fun x hx => ⟨words_lts _ ht x hx, by have := words_size _ x hx; omega⟩) hwl (words s.data.toList).length k 0 [] [] 0 (by omega) (by omega) (by simp) (by simp) (by omega)
  rw [show ((0 : Nat) : Int) = 0 from rfl] at h
  rw [h, if_pos rfl, List.drop_zero, inter_words, Int.add_zero, List.nil_append]
  rfl
theorem all28 (L : List Int) (h : L.length = 28) : [rd L 0, rd L 1, rd L 2, rd L 3, rd L 4, rd L 5, rd L 6, rd L 7, rd L 8, rd L 9, rd L 10, rd L 11, rd L 12, rd L 13, rd L 14, rd L 15, rd L 16, rd L 17, rd L 18, rd L 19, rd L 20, rd L 21, rd L 22, rd L 23, rd L 24, rd L 25, rd L 26, rd L 27] = L := by
  have e : [rd L 0, rd L 1, rd L 2, rd L 3, rd L 4, rd L 5, rd L 6, rd L 7, rd L 8, rd L 9, rd L 10, rd L 11, rd L 12, rd L 13, rd L 14, rd L 15, rd L 16, rd L 17, rd L 18, rd L 19, rd L 20, rd L 21, rd L 22, rd L 23, rd L 24, rd L 25, rd L 26, rd L 27] = (List.range 28).map fun n : Nat => rd L (n : Int) := rfl
  rw [e]
  apply List.ext_getElem (by simp [h])
  intro i h1 h2
  rw [List.getElem_map, List.getElem_range, rd_get L i h2]
theorem validFace_eq {L : List Int} {P : List Pr} (hl : L.length = 28) (hr : rngB L P = true) : impl_ValidFace.f (rd L 0) (rd L 1) (rd L 2) (rd L 3) (rd L 4) (rd L 5) (rd L 6) (rd L 7) (rd L 8) (rd L 9) (rd L 10) (rd L 11) (rd L 12) (rd L 13) (rd L 14) (rd L 15) (rd L 16) (rd L 17) (rd L 18) (rd L 19) (rd L 20) (rd L 21) (rd L 22) (rd L 23) (rd L 24) (rd L 25) (rd L 26) (rd L 27) P = some (faceB L P) := by
  unfold impl_ValidFace.f impl_Face_isFace.f isFaceF
  rw [all28 L hl, if_pos hr, Option.bind_some]
  unfold faceB
  cases shapeB L P
  · simp
  · rw [if_pos rfl, Bool.and_true]
    congr 1
    rw [Bool.eq_iff_iff]; simp; omega
theorem l01Face_eq {L : List Int} {P : List Pr} (hl : L.length = 28) (hr : rngB L P = true) : spec_l01Face.f (rd L 0) (rd L 1) (rd L 2) (rd L 3) (rd L 4) (rd L 5) (rd L 6) (rd L 7) (rd L 8) (rd L 9) (rd L 10) (rd L 11) (rd L 12) (rd L 13) (rd L 14) (rd L 15) (rd L 16) (rd L 17) (rd L 18) (rd L 19) (rd L 20) (rd L 21) (rd L 22) (rd L 23) (rd L 24) (rd L 25) (rd L 26) (rd L 27) P = some (faceB L P) := by
  unfold spec_l01Face.f spec_l01Shape.f isFaceF
  rw [all28 L hl, if_pos hr]
  unfold faceB
  by_cases h : P.length ≤ 12
  · rw [if_pos (by omega), Option.bind_some, show decide (P.length ≤ 12) = true by simpa using h, Bool.true_and]
  · rw [if_neg (by omega), show decide (P.length ≤ 12) = false by simpa using h, Bool.false_and]
theorem txt_size {s : ByteArray} (h : txt s.data.toList = true) : s.size ≤ 60 := by
  unfold txt at h
  simp only [Bool.and_eq_true, decide_eq_true_eq] at h
  have := h.1.1
  rwa [data_length] at this
theorem txt_ok {t : List UInt8} (h : txt t = true) : okTxt t := by
  unfold txt at h
  simp only [Bool.and_eq_true, decide_eq_true_eq] at h
  intro b hb
  have := List.all_eq_true.1 h.1.2.1 b hb
  unfold okB at this
  simp only [Bool.or_eq_true, Bool.and_eq_true, decide_eq_true_eq, beq_iff_eq] at this
  exact this.symm
end Go.Proofs.YticjkfacdmmopaaDoor.Pure
namespace Go.Proofs.YticjkfacdmmopaaDoor.Ext
end Go.Proofs.YticjkfacdmmopaaDoor.Ext
namespace Go.Proofs.YticjkfacdmmopaaDoor.Q
open Go.Proofs.YticjkfacdmmopaaDoor.Ext
open Go.RowKit Go.Proofs.YticjkfacdmmopaaDoorW.PrintWords Go.Proofs.YticjkfacdmmopaaDoorW.PrintLast Go.Proofs.YticjkfacdmmopaaDoorW.PrintMore
attribute [local go_sem] max2_int min2_int max_two min_two max_three min_three max_four min_four
set_option linter.unusedVariables false
set_option linter.unusedSimpArgs false
def laws_toPair.f (a0_0 a0_1 a0_2 : Int) : Option (Int × Int × Int) := some (a0_0, a0_1, a0_2)
set_option maxHeartbeats 8000000 in
set_option maxRecDepth 100000 in
theorem laws_toPair.calls (a0_0 a0_1 a0_2 r1 r2 r3 : Int) (w : World) (h : laws_toPair.f a0_0 a0_1 a0_2 = some (r1, r2, r3)) :
    Calls Tryd.prog 120 #[.agg #[.int .u8 a0_0, .int .u8 a0_1, .int .i8 a0_2]] w fun e w' => e = .returned (.agg #[.int .u8 r1, .int .u8 r2, .int .i8 r3]) ∧ Below w.heap.size w w' := by
  have hu139 := Tryd.underlying139
  have hu137 := Tryd.underlying137
  have HB := Aside0.mk (Below.refl w.heap.size w)
  have H : (some (a0_0, a0_1, a0_2)) = some (r1, r2, r3) := h
  clear h
  simp only [Option.some.injEq, Prod.mk.injEq] at H
  obtain ⟨rfl, rfl, rfl⟩ := H
  go_enter Tryd.func120, Tryd.ntmps120
  go_wp2_with (first | ((with_reducible refine gate_dst (N := 1) rfl ?_); refine box_event ?hg (N := 1) ?hd (cs := #[.int .u8 a0_0, .int .u8 a0_1, .int .i8 a0_2]) (t := 139) ?hr ?_; (case hd => rfl); (case hg => rfl); (case hr => first | (go_simp; done) | (go_simp; rfl)); intro gb120 hg w2 hbox hb; have n0_ := Aside0.mk (below_step (by repeat (first | (with_reducible first | exact HB.out | apply below_alloc | apply pw_below_drewN | apply below_drew1) | exact HB.out)) hb); have n1_ := Aside0.mk (hbox); have n2_ := Aside0.mk ((by rw [hg]; exact (below_size (by repeat (first | (with_reducible first | exact HB.out | apply below_alloc | apply pw_below_drewN | apply below_drew1) | exact HB.out))) : w.heap.size ≤ gb120)); have n3_ := Aside0.mk ((by rw [hg]; exact (below_size (by repeat (first | (with_reducible first | exact HB.out | apply below_alloc | apply pw_below_drewN | apply below_drew1) | exact HB.out))) : w.heap.size ≤ gb120)); clear HB; have HB := n0_; have BK120 := n1_; have GW120 := n2_; have GE120 := n3_; clear n0_ n1_ n2_ n3_; clear hb hbox hg) | ((with_reducible refine gate_dst (N := 2) rfl ?_); refine box_event ?hg (N := 2) ?hd (cs := #[.int .u8 0, .int .u8 0, .int .i8 0]) (t := 137) ?hr ?_; (case hd => rfl); (case hg => rfl); (case hr => first | (go_simp; done) | (go_simp; rfl)); intro gb121 hg w3 hbox hb; have n0_ := Aside0.mk (blk_below (g := gb120) (o := .cells #[.int .u8 a0_0, .int .u8 a0_1, .int .i8 a0_2] 139 (0, 0)) (by (with_reducible repeat (first | refine blk_drewN ?_ _ | refine blk_drew ?_ | refine blk_alloc ?_ _)); exact BK120.out) hb); have n1_ := Aside0.mk (below_step (by repeat (first | (with_reducible first | exact HB.out | apply below_alloc | apply pw_below_drewN | apply below_drew1 | refine below_set ?_ GE120.out) | exact HB.out)) hb); have n2_ := Aside0.mk (hbox); have n3_ := Aside0.mk ((by rw [hg]; exact (below_size (by repeat (first | (with_reducible first | exact HB.out | apply below_alloc | apply pw_below_drewN | apply below_drew1 | refine below_set ?_ GE120.out) | exact HB.out))) : w.heap.size ≤ gb121)); have n4_ := Aside0.mk ((by rw [hg]; exact (below_size (by repeat (first | (with_reducible first | exact HB.out | apply below_alloc | apply pw_below_drewN | apply below_drew1 | refine below_set ?_ GE120.out) | exact HB.out))) : w.heap.size ≤ gb121)); have n5_ := Aside0.mk ((by rw [hg]; exact Nat.ne_of_lt (blk_lt (g := gb120) (o := .cells #[.int .u8 a0_0, .int .u8 a0_1, .int .i8 a0_2] 139 (0, 0)) (by (with_reducible repeat (first | refine blk_drewN ?_ _ | refine blk_drew ?_ | refine blk_alloc ?_ _)); exact BK120.out)) : gb120 ≠ gb121)); have n6_ := Aside0.mk ((by rw [hg]; exact Nat.ne_of_gt (blk_lt (g := gb120) (o := .cells #[.int .u8 a0_0, .int .u8 a0_1, .int .i8 a0_2] 139 (0, 0)) (by (with_reducible repeat (first | refine blk_drewN ?_ _ | refine blk_drew ?_ | refine blk_alloc ?_ _)); exact BK120.out)) : gb121 ≠ gb120)); clear BK120; clear HB; have BK120 := n0_; have HB := n1_; have BK121 := n2_; have GW121 := n3_; have GE121 := n4_; have NB120_121 := n5_; have NB121_120 := n6_; clear n0_ n1_ n2_ n3_ n4_ n5_ n6_; clear hb hbox hg) | ((with_reducible refine gate_dst (N := 3) rfl ?_); refine box_event ?hg (N := 3) ?hd (cs := #[.int .u8 0, .int .u8 0, .int .i8 0]) (t := 137) ?hr ?_; (case hd => rfl); (case hg => rfl); (case hr => first | (go_simp; done) | (go_simp; rfl)); intro gb122 hg w4 hbox hb; have n0_ := Aside0.mk (blk_below (g := gb120) (o := .cells #[.int .u8 a0_0, .int .u8 a0_1, .int .i8 a0_2] 139 (0, 0)) (by (with_reducible repeat (first | refine blk_drewN ?_ _ | refine blk_drew ?_ | refine blk_alloc ?_ _)); exact BK120.out) hb); have n1_ := Aside0.mk (blk_below (g := gb121) (o := .cells #[.int .u8 0, .int .u8 0, .int .i8 0] 137 (0, 0)) (by (with_reducible repeat (first | refine blk_drewN ?_ _ | refine blk_drew ?_ | refine blk_alloc ?_ _)); exact BK121.out) hb); have n2_ := Aside0.mk (below_step (by repeat (first | (with_reducible first | exact HB.out | apply below_alloc | apply pw_below_drewN | apply below_drew1 | refine below_set ?_ GE120.out | refine below_set ?_ GE121.out) | exact HB.out)) hb); have n3_ := Aside0.mk (hbox); have n4_ := Aside0.mk ((by rw [hg]; exact (below_size (by repeat (first | (with_reducible first | exact HB.out | apply below_alloc | apply pw_below_drewN | apply below_drew1 | refine below_set ?_ GE120.out | refine below_set ?_ GE121.out) | exact HB.out))) : w.heap.size ≤ gb122)); have n5_ := Aside0.mk ((by rw [hg]; exact (below_size (by repeat (first | (with_reducible first | exact HB.out | apply below_alloc | apply pw_below_drewN | apply below_drew1 | refine below_set ?_ GE120.out | refine below_set ?_ GE121.out) | exact HB.out))) : w.heap.size ≤ gb122)); have n6_ := Aside0.mk ((by rw [hg]; exact Nat.ne_of_lt (blk_lt (g := gb120) (o := .cells #[.int .u8 a0_0, .int .u8 a0_1, .int .i8 a0_2] 139 (0, 0)) (by (with_reducible repeat (first | refine blk_drewN ?_ _ | refine blk_drew ?_ | refine blk_alloc ?_ _)); exact BK120.out)) : gb120 ≠ gb122)); have n7_ := Aside0.mk ((by rw [hg]; exact Nat.ne_of_gt (blk_lt (g := gb120) (o := .cells #[.int .u8 a0_0, .int .u8 a0_1, .int .i8 a0_2] 139 (0, 0)) (by (with_reducible repeat (first | refine blk_drewN ?_ _ | refine blk_drew ?_ | refine blk_alloc ?_ _)); exact BK120.out)) : gb122 ≠ gb120)); have n8_ := Aside0.mk ((by rw [hg]; exact Nat.ne_of_lt (blk_lt (g := gb121) (o := .cells #[.int .u8 0, .int .u8 0, .int .i8 0] 137 (0, 0)) (by (with_reducible repeat (first | refine blk_drewN ?_ _ | refine blk_drew ?_ | refine blk_alloc ?_ _)); exact BK121.out)) : gb121 ≠ gb122)); have n9_ := Aside0.mk ((by rw [hg]; exact Nat.ne_of_gt (blk_lt (g := gb121) (o := .cells #[.int .u8 0, .int .u8 0, .int .i8 0] 137 (0, 0)) (by (with_reducible repeat (first | refine blk_drewN ?_ _ | refine blk_drew ?_ | refine blk_alloc ?_ _)); exact BK121.out)) : gb122 ≠ gb121)); clear BK120; clear BK121; clear HB; have BK120 := n0_; have BK121 := n1_; have HB := n2_; have BK122 := n3_; have GW122 := n4_; have GE122 := n5_; have NB120_122 := n6_; have NB122_120 := n7_; have NB121_122 := n8_; have NB122_121 := n9_; clear n0_ n1_ n2_ n3_ n4_ n5_ n6_ n7_ n8_ n9_; clear hb hbox hg; have hnb5 := NB120_121.out; have hnc5 := NB121_120.out; have hnb6 := NB120_122.out; have hnc6 := NB122_120.out; have hcz7_0 : w4.cell? ⟨gb120, 0, none⟩ = some (.int .u8 a0_0) := (blk_cell BK120.out 0).trans rfl; have hcz7_1 : w4.cell? ⟨gb120, 1, none⟩ = some (.int .u8 a0_1) := (blk_cell BK120.out 1).trans rfl; have hcz7_2 : w4.cell? ⟨gb120, 2, none⟩ = some (.int .i8 a0_2) := (blk_cell BK120.out 2).trans rfl; have hfz7_0 := blk_frozen BK120.out 0; have hfz7_1 := blk_frozen BK120.out 1; have hfz7_2 := blk_frozen BK120.out 2; have hnb8 := NB122_121.out; have hnc8 := NB121_122.out; have hcz9_0 : w4.cell? ⟨gb122, 0, none⟩ = some (.int .u8 0) := (blk_cell BK122.out 0).trans rfl; have hcz9_1 : w4.cell? ⟨gb122, 1, none⟩ = some (.int .u8 0) := (blk_cell BK122.out 1).trans rfl; have hcz9_2 : w4.cell? ⟨gb122, 2, none⟩ = some (.int .i8 0) := (blk_cell BK122.out 2).trans rfl; have hfz9_0 := blk_frozen BK122.out 0; have hfz9_1 := blk_frozen BK122.out 1; have hfz9_2 := blk_frozen BK122.out 2; have hcz10_0 : w4.cell? ⟨gb121, 0, none⟩ = some (.int .u8 0) := (blk_cell BK121.out 0).trans rfl; have hcz10_1 : w4.cell? ⟨gb121, 1, none⟩ = some (.int .u8 0) := (blk_cell BK121.out 1).trans rfl; have hcz10_2 : w4.cell? ⟨gb121, 2, none⟩ = some (.int .i8 0) := (blk_cell BK121.out 2).trans rfl; have hfz10_0 := blk_frozen BK121.out 0; have hfz10_1 := blk_frozen BK121.out 1; have hfz10_2 := blk_frozen BK121.out 2))
  refine bodyPost_ret (results_cell_row rfl _ _ gb121 137 #[.int .u8 a0_0, .int .u8 a0_1, .int .i8 a0_2] (0, 0) _ rfl (by (with_reducible repeat (first | refine blk_drewN ?_ _ | refine blk_drew ?_ | refine blk_alloc ?_ _)); refine blk_put (cs := #[.int .u8 a0_0, .int .u8 a0_1, .int .i8 0]) ?_ 2 _ rfl; (with_reducible repeat (first | refine blk_drewN ?_ _ | refine blk_drew ?_ | refine blk_alloc ?_ _)); refine blk_put (cs := #[.int .u8 a0_0, .int .u8 0, .int .i8 0]) ?_ 1 _ rfl; (with_reducible repeat (first | refine blk_drewN ?_ _ | refine blk_drew ?_ | refine blk_alloc ?_ _)); refine blk_put (cs := #[.int .u8 0, .int .u8 0, .int .i8 0]) ?_ 0 _ rfl; (with_reducible repeat (first | refine blk_drewN ?_ _ | refine blk_drew ?_ | refine blk_alloc ?_ _)); refine blk_far ?_ NB121_122.out _; (with_reducible repeat (first | refine blk_drewN ?_ _ | refine blk_drew ?_ | refine blk_alloc ?_ _)); refine blk_far ?_ NB121_122.out _; (with_reducible repeat (first | refine blk_drewN ?_ _ | refine blk_drew ?_ | refine blk_alloc ?_ _)); refine blk_far ?_ NB121_122.out _; (with_reducible repeat (first | refine blk_drewN ?_ _ | refine blk_drew ?_ | refine blk_alloc ?_ _)); exact BK121.out) Tryd.underlying137 rfl (by kernel_rfl)) rfl ?_
  exact ⟨by first | rfl | (simp [errW_none, errW_some] <;> rfl) | (simp [*, errW_none, errW_some] <;> rfl), by repeat (first | (with_reducible first | exact HB.out | apply below_alloc | apply pw_below_drewN | apply below_drew1 | refine below_set ?_ GE120.out | refine below_set ?_ GE121.out | refine below_set ?_ GE122.out) | exact HB.out)⟩
def laws_toPairS.l0 : Nat → List (S139) → List (S137) → Int → Option ((List (S137)))
  | 0, _, _, _ => none
  | k + 1, x0, x3, x4 => if x4 < (x0.length : Int) then (if 0 ≤ x4 then ((laws_toPair.f ((rd_T139 x0 x4).f0) ((rd_T139 x0 x4).f1) ((rd_T139 x0 x4).f2)).bind fun bt127 => (if x4 < (x3.length : Int) then (laws_toPairS.l0 k x0 (x3.set (x4 : Int).toNat (⟨bt127.1, bt127.2.1, bt127.2.2⟩ : S137)) (wrap64 (x4 + 1))) else (none))) else (none)) else (some x3)
def laws_toPairS.f (k : Nat) (l0 : List (S139)) : Option ((List (S137))) := if 0 ≤ (l0.length : Int) then (if ((l0.length : Int) : Int).toNat ≤ 93824992236885 then (laws_toPairS.l0 k l0 (List.replicate ((l0.length : Int) : Int).toNat z137) 0) else (none)) else (none)
theorem laws_toPairS.mono_l : ∀ k, (∀ y0 y1 y2, LeO (laws_toPairS.l0 k y0 y1 y2) (laws_toPairS.l0 (k + 1) y0 y1 y2))
  | 0 => fun _ _ _ r h => by simp [laws_toPairS.l0] at h
  | k + 1 => by
    have ih0 := laws_toPairS.mono_l k
    · intro y0 y1 y2
      unfold laws_toPairS.l0
      repeat' first
      | (with_reducible exact ih0 _ _ _)
      | (with_reducible exact LeO.refl _)
      | (with_reducible exact LeO.none _)
      | (with_reducible refine LeO.ite ?_ ?_)
      | (with_reducible refine LeO.bind ?_ (fun _ => ?_))
      | exact ih0 _ _ _
      | exact LeO.none _
      | refine LeO.ite ?_ ?_
      | refine LeO.bind ?_ (fun _ => ?_)
theorem laws_toPairS.mono : ∀ a0 k, LeO (laws_toPairS.f k a0) (laws_toPairS.f (k + 1) a0) := by
  intro a0 k
  have ih0 := laws_toPairS.mono_l k
  unfold laws_toPairS.f
  repeat' first
      | (with_reducible exact ih0 _ _ _)
      | (with_reducible exact LeO.refl _)
      | (with_reducible exact LeO.none _)
      | (with_reducible refine LeO.ite ?_ ?_)
      | (with_reducible refine LeO.bind ?_ (fun _ => ?_))
      | exact ih0 _ _ _
      | exact LeO.none _
      | refine LeO.ite ?_ ?_
      | refine LeO.bind ?_ (fun _ => ?_)
set_option maxHeartbeats 8000000 in
set_option maxRecDepth 100000 in
theorem laws_toPairS.calls (k : Nat) (A0 : Option Addr) (c0 : Nat) (l0 : List (S139)) (r : List (S137)) (w : World) (hr0 : Kd.C k139 w A0 l0.length l0) (hc0 : l0.length ≤ c0) (h : laws_toPairS.f k l0 = some r) :
    Calls Tryd.prog 67 #[.slice A0 l0.length c0] w fun e w' => ∃ v0_ : Value, e = .returned (v0_) ∧ Kd.R k137 137 w' w.heap.size (fun _ => True) v0_ r ∧ Below w.heap.size w w' := by
  have hu139 := Tryd.underlying139
  have hu137 := Tryd.underlying137
  have HR0 := Aside0.mk hr0
  have HC0 := Aside0.mk hc0
  clear hr0 hc0
  have HB := Aside0.mk (Below.refl w.heap.size w)
  have H : (if 0 ≤ (l0.length : Int) then (if ((l0.length : Int) : Int).toNat ≤ 93824992236885 then (laws_toPairS.l0 k l0 (List.replicate ((l0.length : Int) : Int).toNat z137) 0) else (none)) else (none)) = some r := h
  clear h
  by_cases c2 : 0 ≤ (l0.length : Int)
  · rw [if_pos c2] at H
    have c2b0 := eq_true c2
    have c2b1 : decide (0 ≤ (l0.length : Int)) = true := decide_eq_true c2
    clear c2
    by_cases c3 : ((l0.length : Int) : Int).toNat ≤ 93824992236885
    · rw [if_pos c3] at H
      have c3b0 := eq_true c3
      have c3b1 : decide (((l0.length : Int) : Int).toNat ≤ 93824992236885) = true := decide_eq_true c3
      clear c3
      obtain ⟨y123, hy123⟩ : ∃ y_ : List (S137), y_ = (List.replicate ((l0.length : Int) : Int).toNat z137) := ⟨_, rfl⟩
      replace H : (laws_toPairS.l0 k l0 y123 0) = some r := by first | (rw [hy123]; with_reducible exact H) | (have H2_ := (Option.bind_some _ _).symm.trans H; rw [hy123]; with_reducible exact H2_) | (have H2_ := (Option.bind_some _ _).symm.trans H; with_reducible exact H2_) | with_reducible exact H | (rw [hy123]; exact H) | exact H
      have Ny123 := Aside0.mk hy123
      clear hy123
      have H' := Aside0.mk H
      clear H
      go_enter Tryd.func67, Tryd.ntmps67
      go_wp2_with (first | ((with_reducible refine gate_dst (N := 7) rfl ?_); refine Kd.R_make k137 _ 137 rfl (N := 7) rfl 30 _ _ rfl (l0.length : Int) rfl rfl Tryd.underlying30 (.agg #[(.int .u8 0), (.int .u8 0), (.int .i8 0)]) 3 info137 rfl (by decide) (by omega) z137 (ok := fun _ => True) (okp := fun _ => True) (k137_mkM _ _ _ z137 ) (fun _ hk => hk) trivial (of_decide_eq_true (by first | (with_reducible assumption) | assumption)) (Nat.le_trans (Nat.mul_le_mul_right _ (of_decide_eq_true (by first | (with_reducible assumption) | assumption) : (l0.length : Int).toNat ≤ 93824992236885)) (by omega)) (Below.refl _ _) (Nat.le_refl _) ?_; intro v124 w4 ho5 hb hg_ hnew_; clear hg_ hnew_; (first | rw [← Ny123.out] at ho5 | (simp only [Int.reduceToNat] at ho5; rw [← Ny123.out] at ho5)); have n0_ := Aside0.mk (Kd.R_lower ho5 (below_size (by repeat (first | (with_reducible first | exact HB.out | apply below_alloc | apply pw_below_drewN | apply below_drew1) | exact HB.out)))); have n1_ := Aside0.mk (below_step (by repeat (first | (with_reducible first | exact HB.out | apply below_alloc | apply pw_below_drewN | apply below_drew1) | exact HB.out)) hb); clear HB; have HO125 := n0_; have HB := n1_; clear n0_ n1_; clear hb ho5))
      go_loopg [4] k (fun kq v4 w' => ∃ (x3_1 : List (S137)) (x4_1 : Int), v4 = .int .i64 x4_1 ∧ Aside0 (laws_toPairS.l0 kq l0 x3_1 x4_1 = some r) ∧ Aside0 (kq ≤ k) ∧ Aside0 (Kd.R k137 137 w' w.heap.size (fun _ => True) v124 x3_1) ∧ Aside0 (Below w.heap.size w w'))
      case atStart => exact ⟨(y123), (0), (by first | rfl | (simp; done) | (simp [*]; done)), H', ⟨Nat.le_refl _⟩, ⟨by (with_reducible repeat (first | apply Kd.R_alloc | apply Kd.R_drewN | apply Kd.R_drew)); exact HO125.out⟩, ⟨by repeat (first | (with_reducible first | exact HB.out | apply below_alloc | apply pw_below_drewN | apply below_drew1) | exact HB.out)⟩⟩
      case round =>
        clear H'
        try clear c2
        try clear c2b0
        try clear c2b1
        try clear p2
        try clear c3
        try clear c3b0
        try clear c3b1
        obtain ⟨x3_1, x4_1, rfl, HA, HK1, HO_3, HB⟩ := hrel
        cases gk with
        | zero => exact absurd HA.out (by simp [laws_toPairS.l0])
        | succ k1 =>
          have H := HA.out
          clear HA
          simp only [laws_toPairS.l0] at H
          by_cases c6 : x4_1 < (l0.length : Int)
          · rw [if_pos c6] at H
            have c6b0 : decide (x4_1 < (l0.length : Int)) = true := decide_eq_true c6
            clear c6
            by_cases c7 : 0 ≤ x4_1
            · rw [if_pos c7] at H
              have c7b0 : decide (0 ≤ x4_1) = true := decide_eq_true c7
              clear c7
              replace H := Option.bind_eq_some_iff.mp H
              obtain ⟨⟨t127, t128, t129⟩, A80, H⟩ := H
              replace H : (if x4_1 < (x3_1.length : Int) then (laws_toPairS.l0 k1 l0 (x3_1.set (x4_1 : Int).toNat (⟨t127, t128, t129⟩ : S137)) (wrap64 (x4_1 + 1))) else (none)) = some r := H
              have A8 := Aside0.mk A80
              clear A80
              by_cases c9 : x4_1 < (x3_1.length : Int)
              · rw [if_pos c9] at H
                have c9b0 : decide (x4_1 < (x3_1.length : Int)) = true := decide_eq_true c9
                clear c9
                obtain ⟨y130, hy130⟩ : ∃ y_ : List (S137), y_ = (x3_1.set (x4_1 : Int).toNat (⟨t127, t128, t129⟩ : S137)) := ⟨_, rfl⟩
                replace H : (laws_toPairS.l0 k1 l0 y130 (wrap64 (x4_1 + 1))) = some r := by first | (rw [hy130]; with_reducible exact H) | (have H2_ := (Option.bind_some _ _).symm.trans H; rw [hy130]; with_reducible exact H2_) | (have H2_ := (Option.bind_some _ _).symm.trans H; with_reducible exact H2_) | with_reducible exact H | (rw [hy130]; exact H) | exact H
                have Ny130 := Aside0.mk hy130
                clear hy130
                have H' := Aside0.mk H
                clear H
                have p126 : 0 ≤ (x4_1 : Int) := of_decide_eq_true (by first | (with_reducible assumption) | assumption)
                have q126 : x4_1 < (l0.length : Int) := of_decide_eq_true (by first | (with_reducible assumption) | assumption)
                obtain ⟨ad126, e126, hx126_0, hx126_1, hx126_2⟩ := at_T139 HR0.out x4_1 p126 q126
                cases e126
                replace hx126_0 := (HB.out.cell (World.block_lt_of_cell? w _ hx126_0)).trans hx126_0
                replace hx126_1 := (HB.out.cell (World.block_lt_of_cell? w _ hx126_1)).trans hx126_1
                replace hx126_2 := (HB.out.cell (World.block_lt_of_cell? w _ hx126_2)).trans hx126_2
                replace p126 := eq_true p126
                replace q126 := eq_true q126
                go_wp2_with (first | ((with_reducible refine gate_callee (f := 120) rfl ?_); refine goesL_ (some 20) rfl rfl Tryd.func120 (by kernel_rfl) rfl #[.agg #[.int .u8 ((rd_T139 l0 x4_1).f0), .int .u8 ((rd_T139 l0 x4_1).f1), .int .i8 ((rd_T139 l0 x4_1).f2)]] rfl (by (try simp only [List.map_toArray, List.map_cons, List.map_nil]); first | done | rfl | (simp only [List.length_drop, List.length_take]; rfl)) ?_; (with_reducible refine (laws_toPair.calls ((rd_T139 l0 x4_1).f0) ((rd_T139 l0 x4_1).f1) ((rd_T139 l0 x4_1).f2) t127 t128 t129 _ A8.out).mono ?_); rintro e w11 ⟨rfl, hb⟩; refine ⟨_, rfl, ?_⟩; have n0_ := Aside0.mk (Kd.R_below (by (with_reducible repeat (first | apply Kd.R_alloc | apply Kd.R_drewN | apply Kd.R_drew)); exact HO_3.out) hb); have n1_ := Aside0.mk (below_step (by repeat (first | (with_reducible first | exact HB.out | apply below_alloc | apply pw_below_drewN | apply below_drew1) | exact HB.out)) hb); clear HO_3; clear HB; have HO_3 := n0_; have HB := n1_; clear n0_ n1_; (try clear hb); (try clear hb2); (try clear hk); (try clear hi); have p10 : 0 ≤ (x4_1 : Int) := of_decide_eq_true (by first | (with_reducible assumption) | assumption); have q10 : (x4_1 : Int) < ((x3_1.length : Int) : Int) := of_decide_eq_true (by first | (with_reducible assumption) | assumption); obtain ⟨go10, co10, eo10, gb10, gl10, cl10, HG10⟩ := Kd.R_form HO_3.out (by omega); (first | cases eo10 | (injection eo10 with ea_ en_ ec_; (first | subst ea_ | (injection ea_ with ea_; subst ea_)); subst ec_; clear en_)); have GB10 := Aside0.mk gb10; have GG10 := Aside0.mk HG10; clear gb10 gl10 HG10; obtain ⟨ce10, hcl10, hM10, hcc10, hfr10⟩ := Kd.R_elem HO_3.out z137 (x4_1 : Int) p10 q10; obtain rfl := k137_openM hM10; have hx10_0 : w11.cell? ⟨go10, (x4_1 : Int).toNat * 3, none⟩ = some (.int .u8 ((rd_T137 x3_1 x4_1).f0)) := hcc10 0 _ rfl; have hx10_1 : w11.cell? ⟨go10, (x4_1 : Int).toNat * 3 + 1, none⟩ = some (.int .u8 ((rd_T137 x3_1 x4_1).f1)) := hcc10 1 _ rfl; have hx10_2 : w11.cell? ⟨go10, (x4_1 : Int).toNat * 3 + 2, none⟩ = some (.int .i8 ((rd_T137 x3_1 x4_1).f2)) := hcc10 2 _ rfl; have hf10_0 : w11.frozen? ⟨go10, (x4_1 : Int).toNat * 3, none⟩ = false := hfr10 0; have hf10_1 : w11.frozen? ⟨go10, (x4_1 : Int).toNat * 3 + 1, none⟩ = false := hfr10 1; have hf10_2 : w11.frozen? ⟨go10, (x4_1 : Int).toNat * 3 + 2, none⟩ = false := hfr10 2; clear hcl10 hcc10 hfr10 hM10; replace p10 := eq_true p10; replace q10 := eq_true q10; have HX12 := Aside0.mk (show Kd.R k137 137 w11 w.heap.size (fun _ => True) (.slice (some ⟨go10, 0, none⟩) x3_1.length co10) x3_1 from (by (with_reducible repeat (first | apply Kd.R_alloc | apply Kd.R_drewN | apply Kd.R_drew)); exact HO_3.out)); obtain ⟨ce12, hcl12, hM12, hcc12, hfr12⟩ := Kd.R_elem HX12.out z137 (x4_1 : Int) (of_decide_eq_true (by first | (with_reducible assumption) | assumption)) (by have h_ : (x4_1 : Int) < ((x3_1.length : Int) : Int) := of_decide_eq_true (by first | (with_reducible assumption) | assumption); first | exact h_ | (have e_ := (Kd.R_reads' HO_3.out).1; omega) | simpa using h_); obtain rfl := k137_openM hM12; have HP12 := Kd.R_seg HX12.out (x4_1 : Int) (of_decide_eq_true (by first | (with_reducible assumption) | assumption)) (by have h_ : (x4_1 : Int) < ((x3_1.length : Int) : Int) := of_decide_eq_true (by first | (with_reducible assumption) | assumption); first | exact h_ | (have e_ := (Kd.R_reads' HO_3.out).1; omega) | simpa using h_) (seg := [.int .u8 t127, .int .u8 t128, .int .i8 t129]) (j := 0) hcl12 hcc12 (show 3 ≤ 3 from by decide) (x' := (⟨t127, t128, t129⟩ : S137)) (k137_mkM _ _ _ (⟨t127, t128, t129⟩ : S137) ) (fun _ hk => hk); have hx12_0 := hcc12 0 _ rfl; (try simp only [show (k137).sz = 3 from rfl, Nat.mul_one, Nat.add_zero] at hx12_0); have hf12_0 := hfr12 0; (try simp only [show (k137).sz = 3 from rfl, Nat.mul_one, Nat.add_zero] at hf12_0); have hx12_1 := hcc12 1 _ rfl; (try simp only [show (k137).sz = 3 from rfl, Nat.mul_one, Nat.add_zero] at hx12_1); have hf12_1 := hfr12 1; (try simp only [show (k137).sz = 3 from rfl, Nat.mul_one, Nat.add_zero] at hf12_1); have hx12_2 := hcc12 2 _ rfl; (try simp only [show (k137).sz = 3 from rfl, Nat.mul_one, Nat.add_zero] at hx12_2); have hf12_2 := hfr12 2; (try simp only [show (k137).sz = 3 from rfl, Nat.mul_one, Nat.add_zero] at hf12_2); clear hcl12 hcc12 hfr12 hM12) | ((with_reducible refine gate_store (t := 137) (p := 21) rfl ?_); refine store_event (t := 137) (p := 21) (v := ?vo_w13) (w1 := (((w11.setCell ⟨go10, (x4_1 : Int).toNat * 3, none⟩ (.int .u8 t127)).setCell ⟨go10, (x4_1 : Int).toNat * 3 + 1, none⟩ (.int .u8 t128)).setCell ⟨go10, (x4_1 : Int).toNat * 3 + 2, none⟩ (.int .i8 t129))) ?hg ?ho ?hn ?hr ?_; (case ho => rfl); (case hg => rfl); (case hn => rfl); (case hr => first | (go_simp; done) | (go_simp; rfl)); intro w13 hw; have hg : w11.grownBy w13 (some go10) := (by rw [hw]; exact HP12.2); have hp_ : Kd.R k137 137 w13 w.heap.size (fun _ => True) (.slice (some ⟨go10, 0, none⟩) x3_1.length co10) y130 := (by rw [hw, Ny130.out]; exact HP12.1); clear HP12; have n0_ := Aside0.mk (hp_); have n1_ := Aside0.mk ((by rw [hw]; exact below_set (below_set (below_set (HB.out) GB10.out) GB10.out) GB10.out : Below w.heap.size w w13)); clear HO_3; clear HB; have HO_3 := n0_; have HB := n1_; clear n0_ n1_; clear hg hw hp_))
                go_roundg k1
                case measure => have := HK1.out; omega
                case rel => exact ⟨(y130), (wrap64 (x4_1 + 1)), (by first | rfl | (simp; done) | (simp [*]; done)), H', ⟨by have := HK1.out; omega⟩, ⟨by (with_reducible repeat (first | apply Kd.R_alloc | apply Kd.R_drewN | apply Kd.R_drew)); exact HO_3.out⟩, ⟨by repeat (first | (with_reducible first | exact HB.out | apply below_alloc | apply pw_below_drewN | apply below_drew1) | exact HB.out)⟩⟩
              · rw [if_neg c9] at H
                exact absurd H (by simp)
            · rw [if_neg c7] at H
              exact absurd H (by simp)
          · rw [if_neg c6] at H
            have c6b0 : decide (x4_1 < (l0.length : Int)) = false := decide_eq_false c6
            clear c6
            obtain rfl := Option.some.inj H
            go_wp2
            go_ret
            exact ⟨_, by first | rfl | (simp [errW_none, errW_some] <;> rfl) | (simp [*, errW_none, errW_some] <;> rfl), by (with_reducible repeat (first | apply Kd.R_alloc | apply Kd.R_drewN | apply Kd.R_drew)); exact HO_3.out, by repeat (first | (with_reducible first | exact HB.out | apply below_alloc | apply pw_below_drewN | apply below_drew1) | exact HB.out)⟩
    · rw [if_neg c3] at H
      exact absurd H (by simp)
  · rw [if_neg c2] at H
    exact absurd H (by simp)
end Go.Proofs.YticjkfacdmmopaaDoor.Q
namespace Go.Proofs.YticjkfacdmmopaaDoor.Ext
open Go.RowKit Go.Proofs.YticjkfacdmmopaaDoor.Q Go.Proofs.YticjkfacdmmopaaDoor.Face Go.Proofs.YticjkfacdmmopaaDoorW.PrintWords Go.Proofs.YticjkfacdmmopaaDoorW.PrintLast Go.Proofs.YticjkfacdmmopaaDoorW.PrintMore
set_option linter.unusedVariables false
set_option linter.unusedSimpArgs false
theorem ev_store_part {P : Program} {ops : Array Oper} {rest : List Oper} {o : Oper} {a : Act} {Q : Exit → Act → World → Prop} {W : World} (hgd : o.guard = none) (ty : TypeId) (x y : Operand) (ho : o.op = .store ty x y) (hN : o.dst = none)
    (g off : Nat) (cs vs : Array Value) (hx : a.eval x = .pointer (some ⟨g, off, none⟩)) (hy : a.eval y = .agg vs) (t : TypeId) (hg : W.heap[g]? = some (.cells cs t (0, 0))) (hi : (P.info? ty).map (·.size) = some vs.size) (hfit : off + vs.size ≤ cs.size)
    (h1 : ∀ v ∈ vs.toList, v.oneCell' = true)
    (h : ∀ w1, w1.heap[g]? = some (.cells ((cs.toList.take off ++ vs.toList ++ cs.toList.drop (off + vs.size)).toArray) t (0, 0)) → Kept W w1 (fun k => k = g) → (∀ B, B ≤ g → Below B W w1) → wpList P ops Q rest a w1) : wpList P ops Q (o :: rest) a W := by
  have hst := run_storeCells_at P g off t vs.toList 0 cs W hg (by simpa using hfit) h1
  have hrun : (storeVar ty ⟨g, off, none⟩ (.agg vs)).run P W = .ok () (W.setRow g ((cs.toList.take off ++ vs.toList ++ cs.toList.drop (off + vs.size)).toArray)) := by
    cases hq : P.info? ty with
    | none => simp [hq] at hi
    | some i =>
      have hs : vs.size = i.size := by simp [hq] at hi; omega
      simp only [Nat.add_zero, Array.length_toList] at hst
      simp [storeVar, sizeOf, typeInfo, hq, Value.cells, hs, hst]
  refine wpList_plain hgd fun K hK => ?_
  unfold Oper.wp execOp
  simp only [ho, hx, hy, Instr.storeAt, Instr.sureAddr, Sem.run_bind, Sem.run_pure, Result.andThen_ok, hrun]
  refine hK _ _ ?_
  have e : a.put o.dst undef = a := by rw [hN]; rfl
  rw [e]
  refine h _ (setRow_heap W g cs _ t (0, 0) hg) ⟨by simp, fun i hi hn => setRow_other W g i _ hn⟩ (fun B hB => ⟨rfl, rfl, rfl, by simp, fun k hk => setRow_other W g k _ (by omega)⟩)
theorem range_faceT {w : World} {g : Nat} {t : TypeId} {l : List Int} {A : Option Addr} {n c : Nat} (h : w.heap[g]? = some (.cells (faceV l A n c) t (0, 0))) (m : Nat) (hm : m ≤ l.length) : w.rangeAt g 0 (nums .i8 (l.take m)) := by
  intro j v hv
  have hj : j < (nums .i8 (l.take m)).length := (List.getElem?_eq_some_iff.1 hv).1
  have hj' : j < m := by simp [nums] at hj; omega
  rw [Nat.zero_add, face_cell h j (by omega), ← hv]
  simp only [nums, List.getElem?_map, List.getElem?_take, hj', if_true, List.getElem?_eq_getElem (show j < l.length by omega), Option.map_some, rd, Int.toNat_natCast, List.getD_eq_getElem?_getD, Option.getD_some]
theorem cellFT {w : World} {g : Nat} {t : TypeId} {l : List Int} {A : Option Addr} {n c : Nat} (h : w.heap[g]? = some (.cells (faceV l A n c) t (0, 0))) (j : Nat) (hj : j < l.length) {x : Int} (hx : rd l j = x) : w.cell? ⟨g, j, none⟩ = some (.int .i8 x) := by
  rw [← hx]; exact face_cell h j hj
theorem info_26T : (Tryd.prog.info? 23).map (·.size) = some 26 := by kernel_rfl
theorem info_faceT : (Tryd.prog.info? 32).map (·.size) = some 29 := by kernel_rfl
def toP (p : LP) : Pr := ⟨p.f0, p.f1, p.f2⟩
theorem rd_take_succ {α : Type} (l : List α) (n : Nat) (d : α) (h : n < l.length) : l.take (n + 1) = l.take n ++ [l.getD n d] := by
  rw [List.take_succ_eq_append_getElem h, List.getD_eq_getElem?_getD, List.getElem?_eq_getElem h]
  rfl
theorem toPairS_l0 (l : List LP) (hl : l.length ≤ 4611686018427387904) : ∀ (d k n : Nat) (x : List Pr), n + d = l.length → d < k → x.length = l.length → x.take n = (l.take n).map toP →
    laws_toPairS.l0 k l x n = some (l.map toP)
  | 0, k, n, x, hd, hk, hx, ht => by
    obtain ⟨k, rfl⟩ : ∃ m, k = m + 1 := ⟨k - 1, by omega⟩
    simp only [laws_toPairS.l0]
    rw [if_neg (by omega)]
    obtain rfl : n = l.length := by omega
    rw [List.take_length, ← hx, List.take_length] at ht
    rw [ht]
  | d + 1, k, n, x, hd, hk, hx, ht => by
    obtain ⟨k, rfl⟩ : ∃ m, k = m + 1 := ⟨k - 1, by omega⟩
    simp only [laws_toPairS.l0, laws_toPair.f, Option.bind_some]
    have hw : wrap64 ((n : Int) + 1) = ((n + 1 : Nat) : Int) := by unfold wrap64; omega
    rw [if_pos (by omega), if_pos (by omega), if_pos (by omega), hw]
    refine toPairS_l0 l hl d k (n + 1) _ (by omega) (by omega) (by simpa using hx) ?_
    have hset : (x.set (n : Int).toNat (⟨(rd_T139 l n).f0, (rd_T139 l n).f1, (rd_T139 l n).f2⟩ : Pr)).take (n + 1) = x.take n ++ [⟨(rd_T139 l n).f0, (rd_T139 l n).f1, (rd_T139 l n).f2⟩] := by
      rw [Int.toNat_natCast, List.take_succ_eq_append_getElem (by simp; omega), List.take_set, List.set_eq_of_length_le (by simp; omega)]
      simp
    rw [hset, ht, rd_take_succ l n z139 (by omega), List.map_append]
    rfl
theorem toPairS_eq (l : List LP) (hl : l.length ≤ 1048576) : laws_toPairS.f (l.length + 1) l = some (l.map toP) := by
  unfold laws_toPairS.f
  rw [if_pos (by omega), if_pos (by omega)]
  exact toPairS_l0 l (by omega) l.length _ 0 _ (by omega) (by omega) (by simp) (by simp)
theorem cell_push {w : World} {g : Nat} {t : TypeId} {l : List Int} {v : Value} (h : w.heap[g]? = some (.cells ((cellsK .i8 l).push v) t (0, 0))) (j : Nat) (hj : j < l.length) : w.cell? ⟨g, j, none⟩ = some (.int .i8 (rd l j)) := by
  rw [blk_cell h j, Array.getElem?_push_lt (by rw [cellsK_size]; exact hj)]
  have h2 := cellsK_get .i8 l j hj
  rw [Array.getElem?_eq_getElem (by rw [cellsK_size]; exact hj)] at h2
  exact h2
theorem cell_push_last {w : World} {g m : Nat} {t : TypeId} {l : List Int} {v : Value} (h : w.heap[g]? = some (.cells ((cellsK .i8 l).push v) t (0, 0))) (hm : l.length = m) : w.cell? ⟨g, m, none⟩ = some v := by
  rw [blk_cell h m]
  subst hm
  rw [← cellsK_size .i8 l]
  exact Array.getElem?_push_size
theorem put26 (l : List Int) (h : l.length = 26) : ((faceV (List.replicate 28 0) none 0 0).toList.take 0 ++ (cellsK .i8 l).toList ++ (faceV (List.replicate 28 0) none 0 0).toList.drop (0 + (cellsK .i8 l).size)).toArray = (cellsK .i8 (l ++ [0, 0])).push (.slice none 0 0) := by
  rw [cellsK_size, h]
  apply Array.toList_inj.1
  rw [Array.toList_push]
  simp [cellsK, nums]
  rfl
theorem set2 (l : List Int) (h : l.length = 26) (a b : Int) (s : Value) : (((cellsK .i8 (l ++ [0, 0])).push s).setIfInBounds 26 (.int .i8 a)).setIfInBounds 27 (.int .i8 b) = (cellsK .i8 (l ++ [a, b])).push s := by
  apply Array.toList_inj.1
  simp only [Array.toList_setIfInBounds, Array.toList_push, cellsK, nums, List.map_append, List.map_cons, List.map_nil]
  rw [List.append_assoc, List.set_append_right _ _ (by simp; omega)]
  rw [List.set_append_right _ _ (by simp; omega)]
  simp [h]
theorem set28 (l : List Int) (h : l.length = 28) (s v : Value) : ((cellsK .i8 l).push s).setIfInBounds 28 v = (cellsK .i8 l).push v := by
  apply Array.toList_inj.1
  simp only [Array.toList_setIfInBounds, Array.toList_push, cellsK, nums]
  rw [List.set_append_right _ _ (by simp; omega)]
  simp [h]
theorem push_one {v : Value} (h : v.oneCell' = true) (L : List Int) : ((cellsK .i8 L).push v).all (·.oneCell') = true := by
  have h1 := cellsK_one .i8 L
  rw [Array.all_eq_true_iff_forall_mem] at h1 ⊢
  intro x hx
  rw [Array.mem_push] at hx
  rcases hx with hx | rfl
  · exact h1 x hx
  · exact h
set_option maxRecDepth 100000 in
set_option maxHeartbeats 2000000 in
theorem toFace_calls (L : List Int) (hL : L.length = 28) (A : Option Addr) (c : Nat) (P : List LP) (hP : P.length ≤ 1048576) (hc : P.length ≤ c) (w : World) (hr : Kd.C kLP w A P.length P) :
    Calls Tryd.prog 20 #[.agg (faceV L A P.length c)] w fun e w' => ∃ v : Value, e = .returned (.agg ((cellsK .i8 L).push v)) ∧ Kd.R kPr 137 w' w.heap.size (fun _ => True) v (P.map toP) ∧ Below w.heap.size w w' := by
  obtain ⟨a, ha⟩ : ∃ a, rd L (26 : Nat) = a := ⟨_, rfl⟩
  obtain ⟨b, hbb⟩ : ∃ b, rd L (27 : Nat) = b := ⟨_, rfl⟩
  have hsplit : L.take 26 ++ [a, b] = L := by
    have h2 : L.drop 26 = [a, b] := by
      apply List.ext_getElem (by simp; omega)
      intro i h1 h2
      rw [List.getElem_drop]
      have h3 : i = 0 ∨ i = 1 := by simp at h2; omega
      rcases h3 with rfl | rfl
      · simp [← ha, rd, List.getD_eq_getElem?_getD, List.getElem?_eq_getElem (show 26 < L.length by omega)]
      · simp [← hbb, rd, List.getD_eq_getElem?_getD, List.getElem?_eq_getElem (show 27 < L.length by omega)]
    rw [← h2]
    exact List.take_append_drop 26 L
  have HS := Aside0.mk hsplit
  have HI : Aside0 ((Tryd.prog.info? 23).map (·.size) = some (nums .i8 (L.take 26)).length) := ⟨by rw [show (nums .i8 (L.take 26)).length = 26 by simp [nums]; omega]; exact info_26T⟩
  have HL := Aside0.mk hL
  have HR := Aside0.mk hr
  have HC := Aside0.mk hc
  have HPl := Aside0.mk hP
  have Ha := Aside0.mk ha
  have Hb := Aside0.mk hbb
  have H0 := Aside0.mk (blk_new w (.cells (faceV L A P.length c) 26))
  have HB := Aside0.mk (below_alloc (Below.refl w.heap.size w) (.cells (faceV L A P.length c) 26))
  clear ha hbb hL hr hc hP hsplit
  go_enter Tryd.func20, Tryd.ntmps20
  go_wp2_with (first | ((with_reducible refine gate_dst (N := 5) rfl ?_); refine wpList_load_mid rfl 23 (.tmp 4) rfl w.heap.size 0 rfl (nums .i8 (L.take 26)) _ (range_faceT (blk_alloc (blk_alloc H0.out _) _) 26 (by have := HL.out; omega)) Tryd.underlying23 rfl HI.out ?_) | fail)
  refine (laws_toInt8A26_calls (L.take 26) (by have := HL.out; simp; omega) _).mono ?_
  rintro e w1 ⟨rfl, hb1⟩
  replace HB := Aside0.mk (below_step (below_alloc (below_alloc HB.out _) _) hb1)
  have K0 := Aside0.mk (blk_below (blk_alloc (blk_alloc H0.out _) _) hb1)
  have K1 := Aside0.mk (show w1.heap[w.heap.size + 1]? = some (.cells (faceV (List.replicate 28 0) none 0 0) 32 (0, 0)) from blk_below (blk_alloc (blk_at (n := w.heap.size + 1) (by simp) _) _) hb1)
  have K2 := Aside0.mk (show w1.heap[w.heap.size + 2]? = some (.cells (faceV (List.replicate 28 0) none 0 0) 32 (0, 0)) from blk_below (blk_at (n := w.heap.size + 2) (by simp) _) hb1)
  clear H0 hb1
  go_wp2_with (first | ((with_reducible refine gate_store (t := 23) (p := 7) rfl ?_); refine ev_store_part rfl 23 (.tmp 7) (.tmp 6) rfl rfl (w.heap.size + 2) 0 (faceV (List.replicate 28 0) none 0 0) (cellsK .i8 (L.take 26)) rfl rfl _ K2.out (by have := HL.out; rw [cellsK_size, show (L.take 26).length = 26 by simp; omega]; exact info_26T) (by have := HL.out; rw [cellsK_size, faceV_size]; simp; omega) (fun v hv => Array.all_eq_true_iff_forall_mem.1 (cellsK_one .i8 _) v (by simpa using hv)) ?_; intro w2 hb2 hk2 hbel2; have M0 := Aside0.mk ((hk2.2 w.heap.size (blk_lt K0.out) (by omega)).trans K0.out); have M1 := Aside0.mk ((hk2.2 (w.heap.size + 1) (blk_lt K1.out) (by omega)).trans K1.out); have M2 := Aside0.mk hb2; have MB := Aside0.mk (HB.out.trans (hbel2 _ (by omega))); clear hb2 hk2 hbel2 K0 K1 K2 HB; rw [put26 _ (by have := HL.out; simp; omega)] at M2; have c0 := cellFT M0.out 26 (by have := HL.out; omega) Ha.out; have c1 := cellFT M0.out 27 (by have := HL.out; omega) Hb.out; have c2 := face_pairs M0.out HL.out; have f0 := blk_frozen M2.out 26; have f1 := blk_frozen M2.out 27; have d0 := cell_push M2.out 26 (by have := HL.out; simp; omega); have d1 := cell_push M2.out 27 (by have := HL.out; simp; omega)) | fail)
  refine (laws_toPairS.calls (P.length + 1) A c P (P.map toP) _ (Kd.C_below HR.out ((MB.out.setCell (by simp <;> omega) _).setCell (by simp <;> omega) _)) HC.out (toPairS_eq P HPl.out)).mono ?_
  rintro e w4 ⟨v, rfl, ho, hb4⟩
  have HB4 := Aside0.mk (below_step ((MB.out.setCell (by simp <;> omega) _).setCell (by simp <;> omega) _) hb4)
  have HO : Aside0 (Kd.R kPr 137 w4 w.heap.size (fun k => w.heap.size + 3 ≤ k) v (P.map toP)) := ⟨Kd.R_lower (Kd.R_mono (Kd.R_bound ho) (fun k hk => by have := MB.out.size; have := hk.2.1; have := blk_lt M2.out; simp at *; omega)) (by have := MB.out.size; simp; omega)⟩
  have N1 := Aside0.mk (blk_below (blk_far (blk_far M1.out (by simp <;> omega) _) (by simp <;> omega) _) hb4)
  have N2 := Aside0.mk (blk_below (blk_set (blk_set M2.out 26 (.int .i8 a)) 27 (.int .i8 b)) hb4)
  obtain ⟨A', c', rfl⟩ := Kd.R_slice HO.out
  have HN : Aside0 ((P.map toP).length = P.length) := ⟨by simp⟩
  generalize hnn : (P.map toP).length = nn at HO
  clear hnn HN
  have N3 : Aside0 (w4.heap[w.heap.size + 2]? = some (.cells ((cellsK .i8 L).push (.slice none 0 0)) 32 (0, 0))) := ⟨by
    have h := N2.out
    rw [set2 _ (by have := HL.out; simp; omega), HS.out] at h
    exact h⟩
  have HSZ : Aside0 ((Tryd.prog.info? 32).map (·.size) = some ((cellsK .i8 L).push (.slice A' nn c')).size) := ⟨by rw [Array.size_push, cellsK_size, HL.out]; exact info_faceT⟩
  have f28 := blk_frozen N3.out 28
  have d28 := cell_push_last N3.out HL.out
  clear M0 M1 M2 MB c0 c1 c2 f0 f1 d0 d1 ho hb4 N2
  go_wp2_with (first | ((with_reducible refine gate_dst (N := 18) rfl ?_); refine wpList_load_row rfl 32 (.tmp 3) rfl (w.heap.size + 2) rfl 32 ((cellsK .i8 L).push (.slice A' nn c')) (0, 0) _ (by have h := blk_set N3.out 28 (.slice A' nn c'); rw [set28 _ HL.out] at h; exact h) Tryd.underlying32 rfl HSZ.out ?_) | ((with_reducible refine gate_store (t := 32) (p := 2) rfl ?_); refine ev_store_row rfl 32 (.tmp 2) (.tmp 18) rfl rfl (w.heap.size + 1) ((cellsK .i8 L).push (.slice A' nn c')) rfl rfl _ _ (blk_far N1.out (by simp <;> omega) _) HSZ.out (by rw [Array.size_push, cellsK_size, faceV_size, HL.out]; simp) (push_one rfl L) ?_; intro w5 hb5 hk5 hbel5) | fail)
  refine bodyPost_ret (results_cell_row rfl _ _ (w.heap.size + 1) _ ((cellsK .i8 L).push (.slice A' nn c')) (0, 0) _ rfl hb5 Tryd.underlying32 rfl HSZ.out) rfl ⟨(.slice A' nn c'), rfl, ?_, ?_⟩
  · exact Kd.R_mono (Kd.R_kept (Kd.R_far (p := ⟨w.heap.size + 2, 28, none⟩) HO.out (fun k hk => by show k ≠ w.heap.size + 2; omega) (.slice A' nn c')) hk5 (fun k hk e => by have e2 : k = w.heap.size + 1 := e; omega)) (fun _ _ => trivial)
  · exact (HB4.out.setCell (by simp <;> omega) _).trans (hbel5 _ (by omega))
set_option maxRecDepth 100000
def laws_toFace.f (a0_0 a0_1 a0_2 a0_3 a0_4 a0_5 a0_6 a0_7 a0_8 a0_9 a0_10 a0_11 a0_12 a0_13 a0_14 a0_15 a0_16 a0_17 a0_18 a0_19 a0_20 a0_21 a0_22 a0_23 a0_24 a0_25 a0_26 a0_27 : Int) (l0_28 : List LP) : Option (Int × Int × Int × Int × Int × Int × Int × Int × Int × Int × Int × Int × Int × Int × Int × Int × Int × Int × Int × Int × Int × Int × Int × Int × Int × Int × Int × Int × List Pr) := if l0_28.length ≤ 1048576 then some (a0_0, a0_1, a0_2, a0_3, a0_4, a0_5, a0_6, a0_7, a0_8, a0_9, a0_10, a0_11, a0_12, a0_13, a0_14, a0_15, a0_16, a0_17, a0_18, a0_19, a0_20, a0_21, a0_22, a0_23, a0_24, a0_25, a0_26, a0_27, l0_28.map toP) else none
theorem laws_toFace.calls (a0_0 a0_1 a0_2 a0_3 a0_4 a0_5 a0_6 a0_7 a0_8 a0_9 a0_10 a0_11 a0_12 a0_13 a0_14 a0_15 a0_16 a0_17 a0_18 a0_19 a0_20 a0_21 a0_22 a0_23 a0_24 a0_25 a0_26 a0_27 : Int) (A0_28 : Option Addr) (c0_28 : Nat) (l0_28 : List LP) (r1 r2 r3 r4 r5 r6 r7 r8 r9 r10 r11 r12 r13 r14 r15 r16 r17 r18 r19 r20 r21 r22 r23 r24 r25 r26 r27 r28 : Int) (r29 : List Pr) (w : World) (hr0_28 : Kd.C kLP w A0_28 l0_28.length l0_28) (hc0_28 : l0_28.length ≤ c0_28) (h : laws_toFace.f a0_0 a0_1 a0_2 a0_3 a0_4 a0_5 a0_6 a0_7 a0_8 a0_9 a0_10 a0_11 a0_12 a0_13 a0_14 a0_15 a0_16 a0_17 a0_18 a0_19 a0_20 a0_21 a0_22 a0_23 a0_24 a0_25 a0_26 a0_27 l0_28 = some (r1, r2, r3, r4, r5, r6, r7, r8, r9, r10, r11, r12, r13, r14, r15, r16, r17, r18, r19, r20, r21, r22, r23, r24, r25, r26, r27, r28, r29)) :
    Calls Tryd.prog 20 #[.agg #[.int .i8 a0_0, .int .i8 a0_1, .int .i8 a0_2, .int .i8 a0_3, .int .i8 a0_4, .int .i8 a0_5, .int .i8 a0_6, .int .i8 a0_7, .int .i8 a0_8, .int .i8 a0_9, .int .i8 a0_10, .int .i8 a0_11, .int .i8 a0_12, .int .i8 a0_13, .int .i8 a0_14, .int .i8 a0_15, .int .i8 a0_16, .int .i8 a0_17, .int .i8 a0_18, .int .i8 a0_19, .int .i8 a0_20, .int .i8 a0_21, .int .i8 a0_22, .int .i8 a0_23, .int .i8 a0_24, .int .i8 a0_25, .int .i8 a0_26, .int .i8 a0_27, .slice A0_28 l0_28.length c0_28]] w fun e w' => ∃ v28_ : Value, e = .returned (.agg #[.int .i8 r1, .int .i8 r2, .int .i8 r3, .int .i8 r4, .int .i8 r5, .int .i8 r6, .int .i8 r7, .int .i8 r8, .int .i8 r9, .int .i8 r10, .int .i8 r11, .int .i8 r12, .int .i8 r13, .int .i8 r14, .int .i8 r15, .int .i8 r16, .int .i8 r17, .int .i8 r18, .int .i8 r19, .int .i8 r20, .int .i8 r21, .int .i8 r22, .int .i8 r23, .int .i8 r24, .int .i8 r25, .int .i8 r26, .int .i8 r27, .int .i8 r28, v28_]) ∧ Kd.R kPr 137 w' w.heap.size (fun _ => True) v28_ r29 ∧ Below w.heap.size w w' := by
  unfold laws_toFace.f at h
  split at h
  · rename_i hn
    simp only [Option.some.injEq, Prod.mk.injEq] at h
    obtain ⟨rfl, rfl, rfl, rfl, rfl, rfl, rfl, rfl, rfl, rfl, rfl, rfl, rfl, rfl, rfl, rfl, rfl, rfl, rfl, rfl, rfl, rfl, rfl, rfl, rfl, rfl, rfl, rfl, rfl⟩ := h
    exact toFace_calls [a0_0, a0_1, a0_2, a0_3, a0_4, a0_5, a0_6, a0_7, a0_8, a0_9, a0_10, a0_11, a0_12, a0_13, a0_14, a0_15, a0_16, a0_17, a0_18, a0_19, a0_20, a0_21, a0_22, a0_23, a0_24, a0_25, a0_26, a0_27] rfl A0_28 c0_28 l0_28 hn hc0_28 w hr0_28
  · cases h
theorem take_ne {l m : List Int} {n : Nat} (h1 : n < l.length) (h2 : n < m.length) (h : rd l n ≠ rd m n) : l ≠ m := by
  rintro rfl
  exact h rfl
theorem take_step {l m : List Int} {n : Nat} (h1 : n < l.length) (h2 : n < m.length) (h : rd l n = rd m n) (ht : l.take n = m.take n) : l.take (n + 1) = m.take (n + 1) := by
  rw [List.take_succ_eq_append_getElem h1, List.take_succ_eq_append_getElem h2, ht]
  congr 2
  unfold rd at h
  rw [Int.toNat_natCast, List.getD_eq_getElem?_getD, List.getD_eq_getElem?_getD, List.getElem?_eq_getElem h1, List.getElem?_eq_getElem h2] at h
  exact h
set_option maxHeartbeats 2000000 in
theorem eqInt8A26_calls (l m : List Int) (hl : l.length = 26) (hm : m.length = 26) (w : World) :
    Calls Tryd.prog 71 #[.agg (cellsK .i8 l), .agg (cellsK .i8 m)] w fun e w' => e = .returned (.bool (decide (l = m))) ∧ Below w.heap.size w w' := by
  obtain ⟨X, hX⟩ : ∃ X, X = cellsK .i8 l := ⟨_, rfl⟩
  obtain ⟨Y, hY⟩ : ∃ Y, Y = cellsK .i8 m := ⟨_, rfl⟩
  rw [← hX, ← hY]
  have HX := Aside0.mk hX
  have HY := Aside0.mk hY
  have HL := Aside0.mk hl
  have HM := Aside0.mk hm
  clear hX hY hl hm
  go_enter Tryd.func71, Tryd.ntmps71
  go_wp2
  go_loopw [5] (fun i wr => ∃ n : Nat, n ≤ 26 ∧ i = .int .i64 n ∧ Aside0 (wr.heap[w.heap.size]? = some (.cells X 23 (0, 0))) ∧ Aside0 (wr.heap[w.heap.size + 1]? = some (.cells Y 23 (0, 0))) ∧ Aside0 (Below w.heap.size w wr) ∧ Aside0 (l.take n = m.take n)) (fun i _ => 26 - (intOf i).toNat)
  case atStart =>
    refine ⟨0, by omega, rfl, ⟨?_⟩, ⟨?_⟩, ⟨?_⟩, ⟨rfl⟩⟩
    · exact blk_alloc (blk_new w _) _
    · exact blk_at (by simp) _
    · exact ((Below.refl _ _).alloc (Nat.le_refl _) _).alloc (by simp) _
  case round =>
    obtain ⟨n, hn, rfl, H0, H1, HB, HE⟩ := hrel
    by_cases hlt : n < 26
    · have hltz : (n : Int) < 26 := by omega
      have c0 : wr.cell? ⟨w.heap.size, n, none⟩ = some (.int .i8 (rd l n)) := cellsK_cell (k := .i8) (l := l) (by rw [← HX.out]; exact H0.out) n (by have := HL.out; omega)
      have c1 : wr.cell? ⟨w.heap.size + 1, n, none⟩ = some (.int .i8 (rd m n)) := cellsK_cell (k := .i8) (l := m) (by rw [← HY.out]; exact H1.out) n (by have := HM.out; omega)
      obtain ⟨x, hx⟩ : ∃ x, rd l n = x := ⟨_, rfl⟩
      obtain ⟨y, hy⟩ : ∃ y, rd m n = y := ⟨_, rfl⟩
      rw [hx] at c0
      rw [hy] at c1
      have Hx := Aside0.mk hx
      have Hy := Aside0.mk hy
      clear hx hy
      cases hq : (x == y)
      · have hq2 : (x != y) = true := by rw [bne, hq]; rfl
        have HQ := Aside0.mk hq
        go_wp2_with fail
        repeat (go_quiet (fail); try go_wp2)
        go_ret
        refine ⟨?_, (by repeat (first | exact HB.out | apply below_alloc | apply pw_below_drewN | apply below_drew1))⟩
        rw [decide_eq_false (take_ne (n := n) (by have := HL.out; omega) (by have := HM.out; omega) (by rw [Hx.out, Hy.out]; simpa using HQ.out))]
        rfl
      · have hq2 : (x != y) = false := by rw [bne, hq]; rfl
        have HQ := Aside0.mk hq
        go_wp2_with fail
        repeat (go_quiet (fail); try go_wp2)
        go_roundw
        case rel => exact ⟨n + 1, by omega, by go_num, ⟨by repeat (first | exact H0.out | apply blk_drewN | apply blk_drew)⟩, ⟨by repeat (first | exact H1.out | apply blk_drewN | apply blk_drew)⟩, ⟨by repeat (first | exact HB.out | apply below_alloc | apply pw_below_drewN | apply below_drew1)⟩, ⟨take_step (by have := HL.out; omega) (by have := HM.out; omega) (by rw [Hx.out, Hy.out]; simpa using HQ.out) HE.out⟩⟩
        case measure => simp [intOf]; omega
    · have hltz : ¬ (n : Int) < 26 := by omega
      obtain rfl : n = 26 := by omega
      go_wp2
      go_ret
      refine ⟨?_, HB.out⟩
      have e : l = m := by
        have h := HE.out
        rwa [List.take_of_length_le (by have := HL.out; omega), List.take_of_length_le (by have := HM.out; omega)] at h
      rw [decide_eq_true e]
      rfl
end Go.Proofs.YticjkfacdmmopaaDoor.Ext
namespace Go.Proofs.YticjkfacdmmopaaDoor.Q
open Go.Proofs.YticjkfacdmmopaaDoor.Ext
open Go.RowKit Go.Proofs.YticjkfacdmmopaaDoorW.PrintWords Go.Proofs.YticjkfacdmmopaaDoorW.PrintLast Go.Proofs.YticjkfacdmmopaaDoorW.PrintMore
attribute [local go_sem] max2_int min2_int max_two min_two max_three min_three max_four min_four
set_option linter.unusedVariables false
set_option linter.unusedSimpArgs false
def laws_eqPairS.l0 : Nat → List (S137) → List (S137) → Int → Option (Bool)
  | 0, _, _, _ => none
  | k + 1, x0, x1, x5 => if x5 < (x0.length : Int) then (if 0 ≤ x5 then (if x5 < (x1.length : Int) then ((laws_eqPair.f ((rd_T137 x0 x5).f0) ((rd_T137 x0 x5).f1) ((rd_T137 x0 x5).f2) ((rd_T137 x1 x5).f0) ((rd_T137 x1 x5).f1) ((rd_T137 x1 x5).f2)).bind fun t182 => (if t182 = true then (laws_eqPairS.l0 k x0 x1 (wrap64 (x5 + 1))) else (some false))) else (none)) else (none)) else (some true)
def laws_eqPairS.f (k : Nat) (l0 : List (S137)) (l1 : List (S137)) : Option (Bool) := if (l0.length : Int) = (l1.length : Int) then (laws_eqPairS.l0 k l0 l1 0) else (some false)
theorem laws_eqPairS.mono_l : ∀ k, (∀ y0 y1 y2, LeO (laws_eqPairS.l0 k y0 y1 y2) (laws_eqPairS.l0 (k + 1) y0 y1 y2))
  | 0 => fun _ _ _ r h => by simp [laws_eqPairS.l0] at h
  | k + 1 => by
    have ih0 := laws_eqPairS.mono_l k
    · intro y0 y1 y2
      unfold laws_eqPairS.l0
      repeat' first
      | (with_reducible exact ih0 _ _ _)
      | (with_reducible exact LeO.refl _)
      | (with_reducible exact LeO.none _)
      | (with_reducible refine LeO.ite ?_ ?_)
      | (with_reducible refine LeO.bind ?_ (fun _ => ?_))
      | exact ih0 _ _ _
      | exact LeO.none _
      | refine LeO.ite ?_ ?_
      | refine LeO.bind ?_ (fun _ => ?_)
theorem laws_eqPairS.mono : ∀ a0 a1 k, LeO (laws_eqPairS.f k a0 a1) (laws_eqPairS.f (k + 1) a0 a1) := by
  intro a0 a1 k
  have ih0 := laws_eqPairS.mono_l k
  unfold laws_eqPairS.f
  repeat' first
      | (with_reducible exact ih0 _ _ _)
      | (with_reducible exact LeO.refl _)
      | (with_reducible exact LeO.none _)
      | (with_reducible refine LeO.ite ?_ ?_)
      | (with_reducible refine LeO.bind ?_ (fun _ => ?_))
      | exact ih0 _ _ _
      | exact LeO.none _
      | refine LeO.ite ?_ ?_
      | refine LeO.bind ?_ (fun _ => ?_)
def laws_eqPairS.T6 : Bool × List (List Nat × List Nat) := (true, [([], []), ([], []), ([0, 1], [0, 1]), ([2], [2]), ([], []), ([], []), ([4, 5], [4, 5]), ([6], [6]), ([3, 7], [3, 7]), ([8], [8])])
def laws_eqPairS.B6 : List Nat := [0, 0, 3, 7, 0, 0, 48, 112, 255, 511]
theorem laws_eqPairS.tab6 : rtab .any (opsOf Tryd.f72 6) = laws_eqPairS.T6 := by kernel_rfl
theorem laws_eqPairS.bits6 : waitsOk laws_eqPairS.T6.2 laws_eqPairS.B6 = true := by kernel_rfl
set_option maxHeartbeats 8000000 in
set_option maxRecDepth 100000 in
theorem laws_eqPairS.calls (k : Nat) (A0 : Option Addr) (c0 : Nat) (l0 : List (S137)) (A1 : Option Addr) (c1 : Nat) (l1 : List (S137)) (r : Bool) (w : World) (hr0 : Kd.C k137 w A0 l0.length l0) (hc0 : l0.length ≤ c0) (hr1 : Kd.C k137 w A1 l1.length l1) (hc1 : l1.length ≤ c1) (h : laws_eqPairS.f k l0 l1 = some r) :
    Calls Tryd.prog 72 #[.slice A0 l0.length c0, .slice A1 l1.length c1] w fun e w' => e = .returned (.bool r) ∧ Below w.heap.size w w' := by
  have hu137 := Tryd.underlying137
  have HR0 := Aside0.mk hr0
  have HC0 := Aside0.mk hc0
  clear hr0 hc0
  have HR1 := Aside0.mk hr1
  have HC1 := Aside0.mk hc1
  clear hr1 hc1
  have HB := Aside0.mk (Below.refl w.heap.size w)
  have H : (if (l0.length : Int) = (l1.length : Int) then (laws_eqPairS.l0 k l0 l1 0) else (some false)) = some r := h
  clear h
  by_cases c3 : (l0.length : Int) = (l1.length : Int)
  · rw [if_pos c3] at H
    have c3b0 : ((l0.length : Int) == (l1.length : Int)) = true := beq_iff_eq.mpr c3
    have c3b1 : ((l0.length : Int) != (l1.length : Int)) = false := bne_eq_false_iff_eq.mpr c3
    have c3b2 : (l0.length == l1.length) = true := by first | simpa using c3 | (simp at c3 ⊢; omega)
    clear c3
    have H' := Aside0.mk H
    clear H
    go_enter Tryd.func72, Tryd.ntmps72
    go_wp2
    go_loopg [5] k (fun kq v5 w' => ∃ (x5_1 : Int), v5 = .int .i64 x5_1 ∧ Aside0 (laws_eqPairS.l0 kq l0 l1 x5_1 = some r) ∧ Aside0 (kq ≤ k) ∧ Aside0 (Below w.heap.size w w'))
    case atStart => exact ⟨(0), (by first | rfl | (simp; done) | (simp [*]; done)), H', ⟨Nat.le_refl _⟩, ⟨by repeat (first | (with_reducible first | exact HB.out | apply below_alloc | apply pw_below_drewN | apply below_drew1) | exact HB.out)⟩⟩
    case round =>
      clear H'
      try clear c1
      try clear p2
      try clear c3
      try clear c3b0
      try clear c3b1
      try clear c3b2
      obtain ⟨x5_1, rfl, HA, HK1, HB⟩ := hrel
      cases gk with
      | zero => exact absurd HA.out (by simp [laws_eqPairS.l0])
      | succ k1 =>
        have H := HA.out
        clear HA
        simp only [laws_eqPairS.l0] at H
        by_cases c4 : x5_1 < (l0.length : Int)
        · rw [if_pos c4] at H
          have c4b0 : decide (x5_1 < (l0.length : Int)) = true := decide_eq_true c4
          clear c4
          by_cases c5 : 0 ≤ x5_1
          · rw [if_pos c5] at H
            have c5b0 : decide (0 ≤ x5_1) = true := decide_eq_true c5
            clear c5
            by_cases c6 : x5_1 < (l1.length : Int)
            · rw [if_pos c6] at H
              have c6b0 : decide (x5_1 < (l1.length : Int)) = true := decide_eq_true c6
              clear c6
              replace H := Option.bind_eq_some_iff.mp H
              obtain ⟨t182, A70, H⟩ := H
              replace H : (if t182 = true then (laws_eqPairS.l0 k1 l0 l1 (wrap64 (x5_1 + 1))) else (some false)) = some r := H
              have A7 := Aside0.mk A70
              clear A70
              by_cases c8 : t182 = true
              · subst c8
                have H1 : (laws_eqPairS.l0 k1 l0 l1 (wrap64 (x5_1 + 1))) = some r := by rw [if_pos rfl] at H; exact H
                clear H
                have H := H1
                clear H1
                have H' := Aside0.mk H
                clear H
                try go_wp2
                have n0_ := Aside0.mk (below_drew1 HB.out)
                clear HB
                have HB := n0_
                clear n0_
                have p180 : 0 ≤ (x5_1 : Int) := of_decide_eq_true (by first | (with_reducible assumption) | assumption)
                have q180 : x5_1 < (l0.length : Int) := of_decide_eq_true (by first | (with_reducible assumption) | assumption)
                obtain ⟨ad180, e180, hx180_0, hx180_1, hx180_2⟩ := at_T137 HR0.out x5_1 p180 q180
                have hw180_2 := hx180_2
                have hw180_1 := hx180_1
                have hw180_0 := hx180_0
                cases e180
                replace hx180_0 := (HB.out.cell (World.block_lt_of_cell? w _ hx180_0)).trans hx180_0
                replace hx180_1 := (HB.out.cell (World.block_lt_of_cell? w _ hx180_1)).trans hx180_1
                replace hx180_2 := (HB.out.cell (World.block_lt_of_cell? w _ hx180_2)).trans hx180_2
                replace p180 := eq_true p180
                replace q180 := eq_true q180
                have p181 : 0 ≤ (x5_1 : Int) := of_decide_eq_true (by first | (with_reducible assumption) | assumption)
                have q181 : x5_1 < (l1.length : Int) := of_decide_eq_true (by first | (with_reducible assumption) | assumption)
                obtain ⟨ad181, e181, hx181_0, hx181_1, hx181_2⟩ := at_T137 HR1.out x5_1 p181 q181
                have hw181_2 := hx181_2
                have hw181_1 := hx181_1
                have hw181_0 := hx181_0
                cases e181
                replace hx181_0 := (HB.out.cell (World.block_lt_of_cell? w _ hx181_0)).trans hx181_0
                replace hx181_1 := (HB.out.cell (World.block_lt_of_cell? w _ hx181_1)).trans hx181_1
                replace hx181_2 := (HB.out.cell (World.block_lt_of_cell? w _ hx181_2)).trans hx181_2
                replace p181 := eq_true p181
                replace q181 := eq_true q181
                refine start_ (n := 10) (S := fun w' => w'.cell? (ad180.add ((x5_1).toNat * 3)) = some (.int .u8 ((rd_T137 l0 x5_1).f0)) ∧ w'.cell? ⟨(ad180.add ((x5_1).toNat * 3)).block, (ad180.add ((x5_1).toNat * 3)).off + 1, none⟩ = some (.int .u8 ((rd_T137 l0 x5_1).f1)) ∧ w'.cell? ⟨(ad180.add ((x5_1).toNat * 3)).block, (ad180.add ((x5_1).toNat * 3)).off + 2, none⟩ = some (.int .i8 ((rd_T137 l0 x5_1).f2)) ∧ w'.cell? (ad181.add ((x5_1).toNat * 3)) = some (.int .u8 ((rd_T137 l1 x5_1).f0)) ∧ w'.cell? ⟨(ad181.add ((x5_1).toNat * 3)).block, (ad181.add ((x5_1).toNat * 3)).off + 1, none⟩ = some (.int .u8 ((rd_T137 l1 x5_1).f1)) ∧ w'.cell? ⟨(ad181.add ((x5_1).toNat * 3)).block, (ad181.add ((x5_1).toNat * 3)).off + 2, none⟩ = some (.int .i8 ((rd_T137 l1 x5_1).f2))) (ds := []) #[false, false, false, false, false, false, false, false, false, false] (by kernel_rfl) rfl rfl ⟨((HB.out.cell (World.block_lt_of_cell? w _ hw180_0)).trans hw180_0), ((HB.out.cell (World.block_lt_of_cell? w _ hw180_1)).trans hw180_1), ((HB.out.cell (World.block_lt_of_cell? w _ hw180_2)).trans hw180_2), ((HB.out.cell (World.block_lt_of_cell? w _ hw181_0)).trans hw181_0), ((HB.out.cell (World.block_lt_of_cell? w _ hw181_1)).trans hw181_1), ((HB.out.cell (World.block_lt_of_cell? w _ hw181_2)).trans hw181_2)⟩ (fun hHeld => ?_); refine with_tabW laws_eqPairS.tab6 laws_eqPairS.bits6 (fun HT_ HW_ => ?_)
                generalize wr.drew = w9 at HB hx180_0 hx180_1 hx180_2 hx181_0 hx181_1 hx181_2 hHeld ⊢
                refine pure_ (i := 0) (N := some 17) (v := ?_) (a' := ?_) #[true, false, false, false, false, false, false, false, false, false] rfl rfl (any_of HT_.out (by kernel_rfl)) (fun _ _ _ h => h) (Or.inl ⟨by rfl, ?_⟩) ?_ ?_
                rotate_left
                · intro w'
                  go_simp
                  with_reducible rfl
                rotate_left
                · simp only [Act.put, List.setIfInBounds_toArray, List.set_cons_zero, List.set_cons_succ, i64_w, i32_w, u8_w_]
                  rfl
                refine pure_ (i := 1) (N := some 18) (v := ?_) (a' := ?_) #[true, true, false, false, false, false, false, false, false, false] rfl rfl (any_of HT_.out (by kernel_rfl)) (fun _ _ _ h => h) (Or.inl ⟨by rfl, ?_⟩) ?_ ?_
                rotate_left
                · intro w'
                  go_simp
                  with_reducible rfl
                rotate_left
                · simp only [Act.put, List.setIfInBounds_toArray, List.set_cons_zero, List.set_cons_succ, i64_w, i32_w, u8_w_]
                  rfl
                refine pure_ (i := 2) (N := some 19) (v := ?_) (a' := ?_) #[true, true, true, false, false, false, false, false, false, false] rfl rfl (any_of HT_.out (by kernel_rfl)) (fun _ _ _ h => h) (Or.inl ⟨by rfl, ?_⟩) ?_ ?_
                rotate_left
                · intro w'
                  go_simp
                  with_reducible rfl
                rotate_left
                · simp only [Act.put, List.setIfInBounds_toArray, List.set_cons_zero, List.set_cons_succ, i64_w, i32_w, u8_w_]
                  rfl
                refine pure_ (i := 4) (N := some 21) (v := ?_) (a' := ?_) #[true, true, true, false, true, false, false, false, false, false] rfl rfl (any_of HT_.out (by kernel_rfl)) (fun _ _ _ h => h) (Or.inl ⟨by rfl, ?_⟩) ?_ ?_
                rotate_left
                · intro w'
                  go_simp
                  with_reducible rfl
                rotate_left
                · simp only [Act.put, List.setIfInBounds_toArray, List.set_cons_zero, List.set_cons_succ, i64_w, i32_w, u8_w_]
                  rfl
                refine pure_ (i := 5) (N := some 22) (v := ?_) (a' := ?_) #[true, true, true, false, true, true, false, false, false, false] rfl rfl (any_of HT_.out (by kernel_rfl)) (fun _ _ _ h => h) (Or.inl ⟨by rfl, ?_⟩) ?_ ?_
                rotate_left
                · intro w'
                  go_simp
                  with_reducible rfl
                rotate_left
                · simp only [Act.put, List.setIfInBounds_toArray, List.set_cons_zero, List.set_cons_succ, i64_w, i32_w, u8_w_]
                  rfl
                refine pure_ (i := 6) (N := some 23) (v := ?_) (a' := ?_) #[true, true, true, false, true, true, true, false, false, false] rfl rfl (any_of HT_.out (by kernel_rfl)) (fun _ _ _ h => h) (Or.inl ⟨by rfl, ?_⟩) ?_ ?_
                rotate_left
                · intro w'
                  go_simp
                  with_reducible rfl
                rotate_left
                · simp only [Act.put, List.setIfInBounds_toArray, List.set_cons_zero, List.set_cons_succ, i64_w, i32_w, u8_w_]
                  rfl
                refine take_ (i := 3) (N := some 20) (v := ?_) (a' := ?_) #[true, true, true, true, true, true, true, false, false, false] rfl rfl (take_ofW HT_.out HW_.out (by kernel_rfl)) (fun _ _ _ h => h) (Or.inl ⟨by rfl, ?_⟩) hHeld ?_ ?_
                rotate_left
                · rintro w' ⟨s0, s1, s2, s3, s4, s5⟩
                  go_simp
                  with_reducible rfl
                rotate_left
                · simp only [Act.put, List.setIfInBounds_toArray, List.set_cons_zero, List.set_cons_succ, i64_w, i32_w, u8_w_]
                  rfl
                refine take_ (i := 7) (N := some 24) (v := ?_) (a' := ?_) #[true, true, true, true, true, true, true, true, false, false] rfl rfl (take_ofW HT_.out HW_.out (by kernel_rfl)) (fun _ _ _ h => h) (Or.inl ⟨by rfl, ?_⟩) hHeld ?_ ?_
                rotate_left
                · rintro w' ⟨s0, s1, s2, s3, s4, s5⟩
                  go_simp
                  with_reducible rfl
                rotate_left
                · simp only [Act.put, List.setIfInBounds_toArray, List.set_cons_zero, List.set_cons_succ, i64_w, i32_w, u8_w_]
                  rfl
                refine one_ (i := 8) (N := some 25) #[true, true, true, true, true, true, true, true, true, false] rfl rfl (one_of HT_.out (by kernel_rfl)) (by decide) (fun K hK => ?_)
                refine goes_ Tryd.func123 (by kernel_rfl) rfl #[.agg #[.int .u8 ((rd_T137 l0 x5_1).f0), .int .u8 ((rd_T137 l0 x5_1).f1), .int .i8 ((rd_T137 l0 x5_1).f2)], .agg #[.int .u8 ((rd_T137 l1 x5_1).f0), .int .u8 ((rd_T137 l1 x5_1).f1), .int .i8 ((rd_T137 l1 x5_1).f2)]] (by rfl) rfl rfl (by (try simp only [List.map_toArray, List.map_cons, List.map_nil]); first | done | rfl | (simp only [List.length_drop, List.length_take]; rfl)) ?_
                with_reducible refine (laws_eqPair.calls ((rd_T137 l0 x5_1).f0) ((rd_T137 l0 x5_1).f1) ((rd_T137 l0 x5_1).f2) ((rd_T137 l1 x5_1).f0) ((rd_T137 l1 x5_1).f1) ((rd_T137 l1 x5_1).f2) true _ A7.out).mono ?_
                rintro e w10 ⟨rfl, hb⟩
                refine ⟨_, rfl, ?_⟩
                have n0_ := Aside0.mk (below_step (by repeat (first | (with_reducible first | exact HB.out | apply below_alloc | apply pw_below_drewN | apply below_drew1) | exact HB.out)) hb)
                clear HB
                have HB := n0_
                clear n0_
                (try clear hb)
                (try clear hb2)
                (try clear hk)
                (try clear hi)
                refine hK.out _ _ ⟨((HB.out.cell (World.block_lt_of_cell? w _ hw180_0)).trans hw180_0), ((HB.out.cell (World.block_lt_of_cell? w _ hw180_1)).trans hw180_1), ((HB.out.cell (World.block_lt_of_cell? w _ hw180_2)).trans hw180_2), ((HB.out.cell (World.block_lt_of_cell? w _ hw181_0)).trans hw181_0), ((HB.out.cell (World.block_lt_of_cell? w _ hw181_1)).trans hw181_1), ((HB.out.cell (World.block_lt_of_cell? w _ hw181_2)).trans hw181_2)⟩ (fun hHeld => ?_)
                clear hK K
                refine norm_ (a' := ?_) ?_ ?_
                rotate_left
                · show Act.put _ (some 25) _ = _
                  simp only [Act.put, List.setIfInBounds_toArray, List.set_cons_zero, List.set_cons_succ, i64_w, i32_w, u8_w_]
                  rfl
                refine pure_ (i := 9) (N := some 26) (v := ?_) (a' := ?_) #[true, true, true, true, true, true, true, true, true, true] rfl rfl (any_of HT_.out (by kernel_rfl)) (fun _ _ _ h => h) (Or.inl ⟨by rfl, ?_⟩) ?_ ?_
                rotate_left
                · intro w'
                  go_simp
                  with_reducible rfl
                rotate_left
                · simp only [Act.put, List.setIfInBounds_toArray, List.set_cons_zero, List.set_cons_succ, i64_w, i32_w, u8_w_]
                  rfl
                refine done_ (done_of HT_.out (by kernel_rfl)) ?_
                try go_wp2
                go_roundg k1
                case measure => have := HK1.out; omega
                case rel => exact ⟨(wrap64 (x5_1 + 1)), (by first | rfl | (simp; done) | (simp [*]; done)), H', ⟨by have := HK1.out; omega⟩, ⟨by repeat (first | (with_reducible first | exact HB.out | apply below_alloc | apply pw_below_drewN | apply below_drew1) | exact HB.out)⟩⟩
              · replace c8 := Bool.eq_false_iff.mpr c8
                subst c8
                have H1 : (some false) = some r := by rw [if_neg (show ¬ (false = true) by decide)] at H; exact H
                clear H
                have H := H1
                clear H1
                obtain rfl := Option.some.inj H
                try go_wp2
                have n0_ := Aside0.mk (below_drew1 HB.out)
                clear HB
                have HB := n0_
                clear n0_
                have p180 : 0 ≤ (x5_1 : Int) := of_decide_eq_true (by first | (with_reducible assumption) | assumption)
                have q180 : x5_1 < (l0.length : Int) := of_decide_eq_true (by first | (with_reducible assumption) | assumption)
                obtain ⟨ad180, e180, hx180_0, hx180_1, hx180_2⟩ := at_T137 HR0.out x5_1 p180 q180
                have hw180_2 := hx180_2
                have hw180_1 := hx180_1
                have hw180_0 := hx180_0
                cases e180
                replace hx180_0 := (HB.out.cell (World.block_lt_of_cell? w _ hx180_0)).trans hx180_0
                replace hx180_1 := (HB.out.cell (World.block_lt_of_cell? w _ hx180_1)).trans hx180_1
                replace hx180_2 := (HB.out.cell (World.block_lt_of_cell? w _ hx180_2)).trans hx180_2
                replace p180 := eq_true p180
                replace q180 := eq_true q180
                have p181 : 0 ≤ (x5_1 : Int) := of_decide_eq_true (by first | (with_reducible assumption) | assumption)
                have q181 : x5_1 < (l1.length : Int) := of_decide_eq_true (by first | (with_reducible assumption) | assumption)
                obtain ⟨ad181, e181, hx181_0, hx181_1, hx181_2⟩ := at_T137 HR1.out x5_1 p181 q181
                have hw181_2 := hx181_2
                have hw181_1 := hx181_1
                have hw181_0 := hx181_0
                cases e181
                replace hx181_0 := (HB.out.cell (World.block_lt_of_cell? w _ hx181_0)).trans hx181_0
                replace hx181_1 := (HB.out.cell (World.block_lt_of_cell? w _ hx181_1)).trans hx181_1
                replace hx181_2 := (HB.out.cell (World.block_lt_of_cell? w _ hx181_2)).trans hx181_2
                replace p181 := eq_true p181
                replace q181 := eq_true q181
                refine start_ (n := 10) (S := fun w' => w'.cell? (ad180.add ((x5_1).toNat * 3)) = some (.int .u8 ((rd_T137 l0 x5_1).f0)) ∧ w'.cell? ⟨(ad180.add ((x5_1).toNat * 3)).block, (ad180.add ((x5_1).toNat * 3)).off + 1, none⟩ = some (.int .u8 ((rd_T137 l0 x5_1).f1)) ∧ w'.cell? ⟨(ad180.add ((x5_1).toNat * 3)).block, (ad180.add ((x5_1).toNat * 3)).off + 2, none⟩ = some (.int .i8 ((rd_T137 l0 x5_1).f2)) ∧ w'.cell? (ad181.add ((x5_1).toNat * 3)) = some (.int .u8 ((rd_T137 l1 x5_1).f0)) ∧ w'.cell? ⟨(ad181.add ((x5_1).toNat * 3)).block, (ad181.add ((x5_1).toNat * 3)).off + 1, none⟩ = some (.int .u8 ((rd_T137 l1 x5_1).f1)) ∧ w'.cell? ⟨(ad181.add ((x5_1).toNat * 3)).block, (ad181.add ((x5_1).toNat * 3)).off + 2, none⟩ = some (.int .i8 ((rd_T137 l1 x5_1).f2))) (ds := []) #[false, false, false, false, false, false, false, false, false, false] (by kernel_rfl) rfl rfl ⟨((HB.out.cell (World.block_lt_of_cell? w _ hw180_0)).trans hw180_0), ((HB.out.cell (World.block_lt_of_cell? w _ hw180_1)).trans hw180_1), ((HB.out.cell (World.block_lt_of_cell? w _ hw180_2)).trans hw180_2), ((HB.out.cell (World.block_lt_of_cell? w _ hw181_0)).trans hw181_0), ((HB.out.cell (World.block_lt_of_cell? w _ hw181_1)).trans hw181_1), ((HB.out.cell (World.block_lt_of_cell? w _ hw181_2)).trans hw181_2)⟩ (fun hHeld => ?_); refine with_tabW laws_eqPairS.tab6 laws_eqPairS.bits6 (fun HT_ HW_ => ?_)
                generalize wr.drew = w11 at HB hx180_0 hx180_1 hx180_2 hx181_0 hx181_1 hx181_2 hHeld ⊢
                refine pure_ (i := 0) (N := some 17) (v := ?_) (a' := ?_) #[true, false, false, false, false, false, false, false, false, false] rfl rfl (any_of HT_.out (by kernel_rfl)) (fun _ _ _ h => h) (Or.inl ⟨by rfl, ?_⟩) ?_ ?_
                rotate_left
                · intro w'
                  go_simp
                  with_reducible rfl
                rotate_left
                · simp only [Act.put, List.setIfInBounds_toArray, List.set_cons_zero, List.set_cons_succ, i64_w, i32_w, u8_w_]
                  rfl
                refine pure_ (i := 1) (N := some 18) (v := ?_) (a' := ?_) #[true, true, false, false, false, false, false, false, false, false] rfl rfl (any_of HT_.out (by kernel_rfl)) (fun _ _ _ h => h) (Or.inl ⟨by rfl, ?_⟩) ?_ ?_
                rotate_left
                · intro w'
                  go_simp
                  with_reducible rfl
                rotate_left
                · simp only [Act.put, List.setIfInBounds_toArray, List.set_cons_zero, List.set_cons_succ, i64_w, i32_w, u8_w_]
                  rfl
                refine pure_ (i := 2) (N := some 19) (v := ?_) (a' := ?_) #[true, true, true, false, false, false, false, false, false, false] rfl rfl (any_of HT_.out (by kernel_rfl)) (fun _ _ _ h => h) (Or.inl ⟨by rfl, ?_⟩) ?_ ?_
                rotate_left
                · intro w'
                  go_simp
                  with_reducible rfl
                rotate_left
                · simp only [Act.put, List.setIfInBounds_toArray, List.set_cons_zero, List.set_cons_succ, i64_w, i32_w, u8_w_]
                  rfl
                refine pure_ (i := 4) (N := some 21) (v := ?_) (a' := ?_) #[true, true, true, false, true, false, false, false, false, false] rfl rfl (any_of HT_.out (by kernel_rfl)) (fun _ _ _ h => h) (Or.inl ⟨by rfl, ?_⟩) ?_ ?_
                rotate_left
                · intro w'
                  go_simp
                  with_reducible rfl
                rotate_left
                · simp only [Act.put, List.setIfInBounds_toArray, List.set_cons_zero, List.set_cons_succ, i64_w, i32_w, u8_w_]
                  rfl
                refine pure_ (i := 5) (N := some 22) (v := ?_) (a' := ?_) #[true, true, true, false, true, true, false, false, false, false] rfl rfl (any_of HT_.out (by kernel_rfl)) (fun _ _ _ h => h) (Or.inl ⟨by rfl, ?_⟩) ?_ ?_
                rotate_left
                · intro w'
                  go_simp
                  with_reducible rfl
                rotate_left
                · simp only [Act.put, List.setIfInBounds_toArray, List.set_cons_zero, List.set_cons_succ, i64_w, i32_w, u8_w_]
                  rfl
                refine pure_ (i := 6) (N := some 23) (v := ?_) (a' := ?_) #[true, true, true, false, true, true, true, false, false, false] rfl rfl (any_of HT_.out (by kernel_rfl)) (fun _ _ _ h => h) (Or.inl ⟨by rfl, ?_⟩) ?_ ?_
                rotate_left
                · intro w'
                  go_simp
                  with_reducible rfl
                rotate_left
                · simp only [Act.put, List.setIfInBounds_toArray, List.set_cons_zero, List.set_cons_succ, i64_w, i32_w, u8_w_]
                  rfl
                refine take_ (i := 3) (N := some 20) (v := ?_) (a' := ?_) #[true, true, true, true, true, true, true, false, false, false] rfl rfl (take_ofW HT_.out HW_.out (by kernel_rfl)) (fun _ _ _ h => h) (Or.inl ⟨by rfl, ?_⟩) hHeld ?_ ?_
                rotate_left
                · rintro w' ⟨s0, s1, s2, s3, s4, s5⟩
                  go_simp
                  with_reducible rfl
                rotate_left
                · simp only [Act.put, List.setIfInBounds_toArray, List.set_cons_zero, List.set_cons_succ, i64_w, i32_w, u8_w_]
                  rfl
                refine take_ (i := 7) (N := some 24) (v := ?_) (a' := ?_) #[true, true, true, true, true, true, true, true, false, false] rfl rfl (take_ofW HT_.out HW_.out (by kernel_rfl)) (fun _ _ _ h => h) (Or.inl ⟨by rfl, ?_⟩) hHeld ?_ ?_
                rotate_left
                · rintro w' ⟨s0, s1, s2, s3, s4, s5⟩
                  go_simp
                  with_reducible rfl
                rotate_left
                · simp only [Act.put, List.setIfInBounds_toArray, List.set_cons_zero, List.set_cons_succ, i64_w, i32_w, u8_w_]
                  rfl
                refine one_ (i := 8) (N := some 25) #[true, true, true, true, true, true, true, true, true, false] rfl rfl (one_of HT_.out (by kernel_rfl)) (by decide) (fun K hK => ?_)
                refine goes_ Tryd.func123 (by kernel_rfl) rfl #[.agg #[.int .u8 ((rd_T137 l0 x5_1).f0), .int .u8 ((rd_T137 l0 x5_1).f1), .int .i8 ((rd_T137 l0 x5_1).f2)], .agg #[.int .u8 ((rd_T137 l1 x5_1).f0), .int .u8 ((rd_T137 l1 x5_1).f1), .int .i8 ((rd_T137 l1 x5_1).f2)]] (by rfl) rfl rfl (by (try simp only [List.map_toArray, List.map_cons, List.map_nil]); first | done | rfl | (simp only [List.length_drop, List.length_take]; rfl)) ?_
                with_reducible refine (laws_eqPair.calls ((rd_T137 l0 x5_1).f0) ((rd_T137 l0 x5_1).f1) ((rd_T137 l0 x5_1).f2) ((rd_T137 l1 x5_1).f0) ((rd_T137 l1 x5_1).f1) ((rd_T137 l1 x5_1).f2) false _ A7.out).mono ?_
                rintro e w12 ⟨rfl, hb⟩
                refine ⟨_, rfl, ?_⟩
                have n0_ := Aside0.mk (below_step (by repeat (first | (with_reducible first | exact HB.out | apply below_alloc | apply pw_below_drewN | apply below_drew1) | exact HB.out)) hb)
                clear HB
                have HB := n0_
                clear n0_
                (try clear hb)
                (try clear hb2)
                (try clear hk)
                (try clear hi)
                refine hK.out _ _ ⟨((HB.out.cell (World.block_lt_of_cell? w _ hw180_0)).trans hw180_0), ((HB.out.cell (World.block_lt_of_cell? w _ hw180_1)).trans hw180_1), ((HB.out.cell (World.block_lt_of_cell? w _ hw180_2)).trans hw180_2), ((HB.out.cell (World.block_lt_of_cell? w _ hw181_0)).trans hw181_0), ((HB.out.cell (World.block_lt_of_cell? w _ hw181_1)).trans hw181_1), ((HB.out.cell (World.block_lt_of_cell? w _ hw181_2)).trans hw181_2)⟩ (fun hHeld => ?_)
                clear hK K
                refine norm_ (a' := ?_) ?_ ?_
                rotate_left
                · show Act.put _ (some 25) _ = _
                  simp only [Act.put, List.setIfInBounds_toArray, List.set_cons_zero, List.set_cons_succ, i64_w, i32_w, u8_w_]
                  rfl
                refine pure_ (i := 9) (N := some 26) (v := ?_) (a' := ?_) #[true, true, true, true, true, true, true, true, true, true] rfl rfl (any_of HT_.out (by kernel_rfl)) (fun _ _ _ h => h) (Or.inl ⟨by rfl, ?_⟩) ?_ ?_
                rotate_left
                · intro w'
                  go_simp
                  with_reducible rfl
                rotate_left
                · simp only [Act.put, List.setIfInBounds_toArray, List.set_cons_zero, List.set_cons_succ, i64_w, i32_w, u8_w_]
                  rfl
                refine done_ (done_of HT_.out (by kernel_rfl)) ?_
                try go_wp2
                go_ret
                exact ⟨by first | rfl | (simp [errW_none, errW_some] <;> rfl) | (simp [*, errW_none, errW_some] <;> rfl), by repeat (first | (with_reducible first | exact HB.out | apply below_alloc | apply pw_below_drewN | apply below_drew1) | exact HB.out)⟩
            · rw [if_neg c6] at H
              exact absurd H (by simp)
          · rw [if_neg c5] at H
            exact absurd H (by simp)
        · rw [if_neg c4] at H
          have c4b0 : decide (x5_1 < (l0.length : Int)) = false := decide_eq_false c4
          clear c4
          obtain rfl := Option.some.inj H
          go_wp2
          go_ret
          exact ⟨by first | rfl | (simp [errW_none, errW_some] <;> rfl) | (simp [*, errW_none, errW_some] <;> rfl), by repeat (first | (with_reducible first | exact HB.out | apply below_alloc | apply pw_below_drewN | apply below_drew1) | exact HB.out)⟩
  · rw [if_neg c3] at H
    have c3b0 : ((l0.length : Int) == (l1.length : Int)) = false := beq_eq_false_iff_ne.mpr c3
    have c3b1 : ((l0.length : Int) != (l1.length : Int)) = true := bne_iff_ne.mpr c3
    have c3b2 : (l0.length == l1.length) = false := by first | simpa using c3 | (simp at c3 ⊢; omega)
    obtain rfl := Option.some.inj H
    go_enter Tryd.func72, Tryd.ntmps72
    go_wp2
    go_ret
    exact ⟨by first | rfl | (simp [errW_none, errW_some] <;> rfl) | (simp [*, errW_none, errW_some] <;> rfl), by repeat (first | (with_reducible first | exact HB.out | apply below_alloc | apply pw_below_drewN | apply below_drew1) | exact HB.out)⟩
end Go.Proofs.YticjkfacdmmopaaDoor.Q
namespace Go.Proofs.YticjkfacdmmopaaDoor.Ext
open Go.RowKit Go.Proofs.YticjkfacdmmopaaDoor.Q Go.Proofs.YticjkfacdmmopaaDoor.Face Go.Proofs.YticjkfacdmmopaaDoorW.PrintWords Go.Proofs.YticjkfacdmmopaaDoorW.PrintLast Go.Proofs.YticjkfacdmmopaaDoorW.PrintMore
set_option linter.unusedVariables false
set_option linter.unusedSimpArgs false
set_option maxRecDepth 100000
def eqFaceF (L M : List Int) (P Q : List Pr) : Option Bool := if L.take 26 = M.take 26 ∧ rd L 26 = rd M 26 ∧ rd L 27 = rd M 27 then laws_eqPairS.f (P.length + 1) P Q else some false
set_option maxHeartbeats 2000000 in
theorem eqFace_calls (L M : List Int) (hL : L.length = 28) (hM : M.length = 28) (A B : Option Addr) (c d : Nat) (P Q : List Pr) (hc : P.length ≤ c) (hd : Q.length ≤ d) (w : World) (hr : Kd.C kPr w A P.length P) (hq : Kd.C kPr w B Q.length Q) (r : Bool) (h : eqFaceF L M P Q = some r) :
    Calls Tryd.prog 22 #[.agg (faceV L A P.length c), .agg (faceV M B Q.length d)] w fun e w' => e = .returned (.bool r) ∧ Below w.heap.size w w' := by
  obtain ⟨a, ha⟩ : ∃ a, rd L (26 : Nat) = a := ⟨_, rfl⟩
  obtain ⟨b, hb⟩ : ∃ b, rd L (27 : Nat) = b := ⟨_, rfl⟩
  obtain ⟨a', ha'⟩ : ∃ a, rd M (26 : Nat) = a := ⟨_, rfl⟩
  obtain ⟨b', hb'⟩ : ∃ b, rd M (27 : Nat) = b := ⟨_, rfl⟩
  have HI : Aside0 ((Tryd.prog.info? 23).map (·.size) = some (nums .i8 (L.take 26)).length) := ⟨by rw [show (nums .i8 (L.take 26)).length = 26 by simp [nums]; omega]; exact info_26T⟩
  have HJ : Aside0 ((Tryd.prog.info? 23).map (·.size) = some (nums .i8 (M.take 26)).length) := ⟨by rw [show (nums .i8 (M.take 26)).length = 26 by simp [nums]; omega]; exact info_26T⟩
  have HL := Aside0.mk hL
  have HM := Aside0.mk hM
  have HR := Aside0.mk hr
  have HQ := Aside0.mk hq
  have HC := Aside0.mk hc
  have HD := Aside0.mk hd
  have HF := Aside0.mk h
  have Ha := Aside0.mk ha
  have Hb := Aside0.mk hb
  have Ha' := Aside0.mk ha'
  have Hb' := Aside0.mk hb'
  have H0 := Aside0.mk (blk_alloc (blk_new w (.cells (faceV L A P.length c) 32)) (.cells (faceV M B Q.length d) 32))
  have H1 := Aside0.mk (blk_at (W := w.alloc (.cells (faceV L A P.length c) 32)) (n := w.heap.size + 1) (by simp) (.cells (faceV M B Q.length d) 32))
  have HB := Aside0.mk (below_alloc (below_alloc (Below.refl w.heap.size w) (.cells (faceV L A P.length c) 32)) (.cells (faceV M B Q.length d) 32))
  clear ha hb ha' hb' hL hM hr hq hc hd h
  go_enter Tryd.func22, Tryd.ntmps22
  go_wp2_with (first | ((with_reducible refine gate_dst (N := 6) rfl ?_); refine wpList_load_mid rfl 23 (.tmp 5) rfl w.heap.size 0 rfl (nums .i8 (L.take 26)) _ (range_faceT H0.out 26 (by have := HL.out; omega)) Tryd.underlying23 rfl HI.out ?_) | ((with_reducible refine gate_dst (N := 8) rfl ?_); refine wpList_load_mid rfl 23 (.tmp 7) rfl (w.heap.size + 1) 0 rfl (nums .i8 (M.take 26)) _ (range_faceT H1.out 26 (by have := HM.out; omega)) Tryd.underlying23 rfl HJ.out ?_) | fail)
  refine (eqInt8A26_calls (L.take 26) (M.take 26) (by have := HL.out; simp; omega) (by have := HM.out; simp; omega) _).mono ?_
  rintro e w1 ⟨rfl, hb1⟩
  have K0 := Aside0.mk (blk_below H0.out hb1)
  have K1 := Aside0.mk (blk_below H1.out hb1)
  have KB := Aside0.mk (below_step HB.out hb1)
  have c0 := cellFT K0.out 26 (by have := HL.out; omega) Ha.out
  have c1 := cellFT K0.out 27 (by have := HL.out; omega) Hb.out
  have c2 := face_pairs K0.out HL.out
  have d0 := cellFT K1.out 26 (by have := HM.out; omega) Ha'.out
  have d1 := cellFT K1.out 27 (by have := HM.out; omega) Hb'.out
  have d2 := face_pairs K1.out HM.out
  by_cases h26 : L.take 26 = M.take 26
  · rw [decide_eq_true h26]
    by_cases hA : a = a'
    · by_cases hB : b = b'
      · have hA1 : (a != a') = false := by simpa using hA
        have hB1 : (b != b') = false := by simpa using hB
        have HH : Aside0 (laws_eqPairS.f (P.length + 1) P Q = some r) := ⟨by have := HF.out; unfold eqFaceF at this; rwa [if_pos ⟨h26, Ha.out.trans (hA.trans Ha'.out.symm), Hb.out.trans (hB.trans Hb'.out.symm)⟩] at this⟩
        clear hA hB h26
        go_wp2_with fail
        refine (laws_eqPairS.calls (P.length + 1) A c P B d Q r _ (Kd.C_below HR.out KB.out) HC.out (Kd.C_below HQ.out KB.out) HD.out HH.out).mono ?_
        rintro e w2 ⟨rfl, hd2⟩
        have BD : Aside0 (Below w.heap.size w w2) := ⟨by first | exact below_step KB.out hd2 | (obtain ⟨nd, rfl⟩ := hd2; exact pw_below_drewN KB.out _)⟩
        clear hd2
        cases r
        · go_wp2
          go_ret
          exact ⟨rfl, BD.out⟩
        · go_wp2
          go_ret
          exact ⟨rfl, BD.out⟩
      · have hA1 : (a != a') = false := by simpa using hA
        have hB1 : (b != b') = true := by simpa using hB
        have HH : Aside0 (r = false) := ⟨by have := HF.out; unfold eqFaceF at this; rw [if_neg (by rintro ⟨_, _, h3⟩; exact hB (Hb.out.symm.trans (Eq.trans h3 Hb'.out)))] at this; exact (Option.some.inj this).symm⟩
        clear hA hB h26
        go_wp2
        go_ret
        exact ⟨by rw [HH.out]; rfl, KB.out⟩
    · have hA1 : (a != a') = true := by simpa using hA
      have HH : Aside0 (r = false) := ⟨by have := HF.out; unfold eqFaceF at this; rw [if_neg (by rintro ⟨_, h3, _⟩; exact hA (Ha.out.symm.trans (Eq.trans h3 Ha'.out)))] at this; exact (Option.some.inj this).symm⟩
      clear hA h26
      go_wp2
      go_ret
      exact ⟨by rw [HH.out]; rfl, KB.out⟩
  · rw [decide_eq_false h26]
    have HH : Aside0 (r = false) := ⟨by have := HF.out; unfold eqFaceF at this; rw [if_neg (by rintro ⟨h3, _, _⟩; exact h26 h3)] at this; exact (Option.some.inj this).symm⟩
    clear h26
    go_wp2
    go_ret
    exact ⟨by rw [HH.out]; rfl, KB.out⟩
def laws_eqFace.f (a0_0 a0_1 a0_2 a0_3 a0_4 a0_5 a0_6 a0_7 a0_8 a0_9 a0_10 a0_11 a0_12 a0_13 a0_14 a0_15 a0_16 a0_17 a0_18 a0_19 a0_20 a0_21 a0_22 a0_23 a0_24 a0_25 a0_26 a0_27 : Int) (l0_28 : List Pr) (a1_0 a1_1 a1_2 a1_3 a1_4 a1_5 a1_6 a1_7 a1_8 a1_9 a1_10 a1_11 a1_12 a1_13 a1_14 a1_15 a1_16 a1_17 a1_18 a1_19 a1_20 a1_21 a1_22 a1_23 a1_24 a1_25 a1_26 a1_27 : Int) (l1_28 : List Pr) : Option Bool := eqFaceF [a0_0, a0_1, a0_2, a0_3, a0_4, a0_5, a0_6, a0_7, a0_8, a0_9, a0_10, a0_11, a0_12, a0_13, a0_14, a0_15, a0_16, a0_17, a0_18, a0_19, a0_20, a0_21, a0_22, a0_23, a0_24, a0_25, a0_26, a0_27] [a1_0, a1_1, a1_2, a1_3, a1_4, a1_5, a1_6, a1_7, a1_8, a1_9, a1_10, a1_11, a1_12, a1_13, a1_14, a1_15, a1_16, a1_17, a1_18, a1_19, a1_20, a1_21, a1_22, a1_23, a1_24, a1_25, a1_26, a1_27] l0_28 l1_28
theorem laws_eqFace.calls (a0_0 a0_1 a0_2 a0_3 a0_4 a0_5 a0_6 a0_7 a0_8 a0_9 a0_10 a0_11 a0_12 a0_13 a0_14 a0_15 a0_16 a0_17 a0_18 a0_19 a0_20 a0_21 a0_22 a0_23 a0_24 a0_25 a0_26 a0_27 : Int) (A0_28 : Option Addr) (c0_28 : Nat) (l0_28 : List Pr) (a1_0 a1_1 a1_2 a1_3 a1_4 a1_5 a1_6 a1_7 a1_8 a1_9 a1_10 a1_11 a1_12 a1_13 a1_14 a1_15 a1_16 a1_17 a1_18 a1_19 a1_20 a1_21 a1_22 a1_23 a1_24 a1_25 a1_26 a1_27 : Int) (A1_28 : Option Addr) (c1_28 : Nat) (l1_28 : List Pr) (r : Bool) (w : World) (hr0_28 : Kd.C kPr w A0_28 l0_28.length l0_28) (hc0_28 : l0_28.length ≤ c0_28) (hr1_28 : Kd.C kPr w A1_28 l1_28.length l1_28) (hc1_28 : l1_28.length ≤ c1_28) (h : laws_eqFace.f a0_0 a0_1 a0_2 a0_3 a0_4 a0_5 a0_6 a0_7 a0_8 a0_9 a0_10 a0_11 a0_12 a0_13 a0_14 a0_15 a0_16 a0_17 a0_18 a0_19 a0_20 a0_21 a0_22 a0_23 a0_24 a0_25 a0_26 a0_27 l0_28 a1_0 a1_1 a1_2 a1_3 a1_4 a1_5 a1_6 a1_7 a1_8 a1_9 a1_10 a1_11 a1_12 a1_13 a1_14 a1_15 a1_16 a1_17 a1_18 a1_19 a1_20 a1_21 a1_22 a1_23 a1_24 a1_25 a1_26 a1_27 l1_28 = some r) :
    Calls Tryd.prog 22 #[.agg #[.int .i8 a0_0, .int .i8 a0_1, .int .i8 a0_2, .int .i8 a0_3, .int .i8 a0_4, .int .i8 a0_5, .int .i8 a0_6, .int .i8 a0_7, .int .i8 a0_8, .int .i8 a0_9, .int .i8 a0_10, .int .i8 a0_11, .int .i8 a0_12, .int .i8 a0_13, .int .i8 a0_14, .int .i8 a0_15, .int .i8 a0_16, .int .i8 a0_17, .int .i8 a0_18, .int .i8 a0_19, .int .i8 a0_20, .int .i8 a0_21, .int .i8 a0_22, .int .i8 a0_23, .int .i8 a0_24, .int .i8 a0_25, .int .i8 a0_26, .int .i8 a0_27, .slice A0_28 l0_28.length c0_28], .agg #[.int .i8 a1_0, .int .i8 a1_1, .int .i8 a1_2, .int .i8 a1_3, .int .i8 a1_4, .int .i8 a1_5, .int .i8 a1_6, .int .i8 a1_7, .int .i8 a1_8, .int .i8 a1_9, .int .i8 a1_10, .int .i8 a1_11, .int .i8 a1_12, .int .i8 a1_13, .int .i8 a1_14, .int .i8 a1_15, .int .i8 a1_16, .int .i8 a1_17, .int .i8 a1_18, .int .i8 a1_19, .int .i8 a1_20, .int .i8 a1_21, .int .i8 a1_22, .int .i8 a1_23, .int .i8 a1_24, .int .i8 a1_25, .int .i8 a1_26, .int .i8 a1_27, .slice A1_28 l1_28.length c1_28]] w fun e w' => e = .returned (.bool r) ∧ Below w.heap.size w w' :=
  eqFace_calls [a0_0, a0_1, a0_2, a0_3, a0_4, a0_5, a0_6, a0_7, a0_8, a0_9, a0_10, a0_11, a0_12, a0_13, a0_14, a0_15, a0_16, a0_17, a0_18, a0_19, a0_20, a0_21, a0_22, a0_23, a0_24, a0_25, a0_26, a0_27] [a1_0, a1_1, a1_2, a1_3, a1_4, a1_5, a1_6, a1_7, a1_8, a1_9, a1_10, a1_11, a1_12, a1_13, a1_14, a1_15, a1_16, a1_17, a1_18, a1_19, a1_20, a1_21, a1_22, a1_23, a1_24, a1_25, a1_26, a1_27] rfl rfl A0_28 A1_28 c0_28 c1_28 l0_28 l1_28 hc0_28 hc1_28 w hr0_28 hr1_28 r h
end Go.Proofs.YticjkfacdmmopaaDoor.Ext
namespace Go.Proofs.YticjkfacdmmopaaDoor.Pure
open Go.RowKit Go.Proofs.YticjkfacdmmopaaDoor.Ext Go.Proofs.YticjkfacdmmopaaDoor.Q Go.Proofs.YticjkfacdmmopaaDoor.Txt Go.Proofs.YticjkfacdmmopaaDoor.Face Go.Proofs.YticjkfacdmmopaaDoorW.PrintWords Go.Proofs.YticjkfacdmmopaaDoorW.PrintLast Go.Proofs.YticjkfacdmmopaaDoorW.PrintMore
set_option linter.unusedVariables false
set_option linter.unusedSimpArgs false
set_option maxRecDepth 100000
theorem szFace_eq (L : List Int) (lp : List LP) (hp : lp.length ≤ 9223372036854775807) : laws_szFace.f (rd L 0) (rd L 1) (rd L 2) (rd L 3) (rd L 4) (rd L 5) (rd L 6) (rd L 7) (rd L 8) (rd L 9) (rd L 10) (rd L 11) (rd L 12) (rd L 13) (rd L 14) (rd L 15) (rd L 16) (rd L 17) (rd L 18) (rd L 19) (rd L 20) (rd L 21) (rd L 22) (rd L 23) (rd L 24) (rd L 25) (rd L 26) (rd L 27) lp 1048576 = some (if 1048576 < lp.length then -1 else 1048576 - (lp.length : Int)) := by
  unfold laws_szFace.f laws_szPairS.f
  rw [w64 (x := 1048576 - (lp.length : Int)) (by omega) (by omega)]
  by_cases h : 1048576 < lp.length
  · rw [if_pos (by omega), if_pos h, Option.bind_some, if_pos (by omega)]
  · rw [if_neg (by omega), if_neg h, Option.bind_some, if_neg (by omega)]
theorem toFace_eq (L : List Int) (lp : List LP) (hp : lp.length ≤ 1048576) : laws_toFace.f (rd L 0) (rd L 1) (rd L 2) (rd L 3) (rd L 4) (rd L 5) (rd L 6) (rd L 7) (rd L 8) (rd L 9) (rd L 10) (rd L 11) (rd L 12) (rd L 13) (rd L 14) (rd L 15) (rd L 16) (rd L 17) (rd L 18) (rd L 19) (rd L 20) (rd L 21) (rd L 22) (rd L 23) (rd L 24) (rd L 25) (rd L 26) (rd L 27) lp = some (rd L 0, rd L 1, rd L 2, rd L 3, rd L 4, rd L 5, rd L 6, rd L 7, rd L 8, rd L 9, rd L 10, rd L 11, rd L 12, rd L 13, rd L 14, rd L 15, rd L 16, rd L 17, rd L 18, rd L 19, rd L 20, rd L 21, rd L 22, rd L 23, rd L 24, rd L 25, rd L 26, rd L 27, lp.map toP) := by
  unfold laws_toFace.f
  rw [if_pos hp]
theorem eqPairS_l0 (P : List Pr) (hP : P.length ≤ 4611686018427387904) : ∀ (d k n : Nat), n + d = P.length → d < k → laws_eqPairS.l0 k P P n = some true
  | 0, k, n, hd, hk => by
    obtain ⟨k, rfl⟩ := some_k hk
    rw [laws_eqPairS.l0, if_neg (by omega)]
  | d + 1, k, n, hd, hk => by
    obtain ⟨k, rfl⟩ := some_k hk
    rw [laws_eqPairS.l0, if_pos (by omega), if_pos (by omega), if_pos (by omega), laws_eqPair.f, if_pos rfl, if_pos rfl, if_pos rfl, Option.bind_some, if_pos rfl, wrap_succ n (by omega)]
    exact eqPairS_l0 P hP d k (n + 1) (by omega) (by omega)
theorem eqFace_self (L : List Int) (P : List Pr) (hP : P.length ≤ 1048576) {k : Nat} (hk : 1048577 < k) : laws_eqFace.f (rd L 0) (rd L 1) (rd L 2) (rd L 3) (rd L 4) (rd L 5) (rd L 6) (rd L 7) (rd L 8) (rd L 9) (rd L 10) (rd L 11) (rd L 12) (rd L 13) (rd L 14) (rd L 15) (rd L 16) (rd L 17) (rd L 18) (rd L 19) (rd L 20) (rd L 21) (rd L 22) (rd L 23) (rd L 24) (rd L 25) (rd L 26) (rd L 27) P (rd L 0) (rd L 1) (rd L 2) (rd L 3) (rd L 4) (rd L 5) (rd L 6) (rd L 7) (rd L 8) (rd L 9) (rd L 10) (rd L 11) (rd L 12) (rd L 13) (rd L 14) (rd L 15) (rd L 16) (rd L 17) (rd L 18) (rd L 19) (rd L 20) (rd L 21) (rd L 22) (rd L 23) (rd L 24) (rd L 25) (rd L 26) (rd L 27) P = some true := by
  have h2 := eqPairS_l0 P (by omega) P.length (P.length + 1) 0 (by omega) (by omega)
  rw [show ((0 : Nat) : Int) = 0 from rfl] at h2
  unfold laws_eqFace.f eqFaceF laws_eqPairS.f
  rw [if_pos ⟨rfl, rfl, rfl⟩, if_pos rfl, h2]
theorem markPairS_l0 : ∀ (d k n : Nat) (P : List Pr) (m : Int), n + d = P.length → d < k → P.length ≤ 4611686018427387904 → 0 ≤ m → m + 3 * d ≤ 9223372036854775807 → ∃ P', laws_markPairS.l0 k P m n = some (m + 3 * d, P')
  | 0, k, n, P, m, hd, hk, hP, hm, hm2 => by
    obtain ⟨k, rfl⟩ := some_k hk
    rw [laws_markPairS.l0, if_neg (by omega)]
    exact ⟨P, by simp⟩
  | d + 1, k, n, P, m, hd, hk, hP, hm, hm2 => by
    obtain ⟨k, rfl⟩ := some_k hk
    rw [laws_markPairS.l0, if_pos (by omega), if_pos (by omega), Option.bind_some, Option.bind_some, wrap_succ n (by omega), w64 (x := m + 1) (by omega) (by omega), w64 (x := m + 1 + 1) (by omega) (by omega), w64 (x := m + 1 + 1 + 1) (by omega) (by omega)]
    rw [show m + 3 * ((d + 1 : Nat) : Int) = m + 1 + 1 + 1 + 3 * (d : Int) by omega]
    exact markPairS_l0 d k (n + 1) _ (m + 1 + 1 + 1) (by simp only [List.length_set]; omega) (by omega) (by simp only [List.length_set]; omega) (by omega) (by omega)
theorem markFace_eq (L : List Int) (P : List Pr) (hP : P.length ≤ 1048576) {k : Nat} (hk : 1048577 < k) : ∃ x, laws_markFace.f k (rd L 0) (rd L 1) (rd L 2) (rd L 3) (rd L 4) (rd L 5) (rd L 6) (rd L 7) (rd L 8) (rd L 9) (rd L 10) (rd L 11) (rd L 12) (rd L 13) (rd L 14) (rd L 15) (rd L 16) (rd L 17) (rd L 18) (rd L 19) (rd L 20) (rd L 21) (rd L 22) (rd L 23) (rd L 24) (rd L 25) (rd L 26) (rd L 27) P 1 = some x ∧ ¬ x.1 < 0 := by
  unfold laws_markFace.f laws_markPairS.f
  obtain ⟨P', h⟩ := markPairS_l0 P.length k 0 P 1 (by omega) (by omega) (by omega) (by omega) (by omega)
  rw [show ((0 : Nat) : Int) = 0 from rfl] at h
  rw [h, Option.bind_some]
  exact ⟨_, rfl, by simp only; omega⟩
theorem size_le {lp : List LP} (h : lp.length ≤ 1048576) : (lp.map toP).length ≤ 1048576 := by rwa [List.length_map]
end Go.Proofs.YticjkfacdmmopaaDoor.Pure
namespace Go.Proofs.YticjkfacdmmopaaDoor.Ext
end Go.Proofs.YticjkfacdmmopaaDoor.Ext
namespace Go.Proofs.YticjkfacdmmopaaDoor.Q
open Go.Proofs.YticjkfacdmmopaaDoor.Ext
open Go.RowKit Go.Proofs.YticjkfacdmmopaaDoorW.PrintWords Go.Proofs.YticjkfacdmmopaaDoorW.PrintLast Go.Proofs.YticjkfacdmmopaaDoorW.PrintMore
attribute [local go_sem] max2_int min2_int max_two min_two max_three min_three max_four min_four
set_option linter.unusedVariables false
set_option linter.unusedSimpArgs false
def IsS68 (w0 W : World) (g : Nat) (f0 : Int) (f1 : Int) : Prop := W.heap[g]? = some (.cells #[.int .i16 f0, .int .i8 f1] 68 (0, 0)) ∧ w0.heap.size ≤ g
theorem IsS68.grown {w0 W : World} {g : Nat} {f0 : Int} {f1 : Int} {W1 : World} {row : Option Nat} (h : IsS68 w0 W g f0 f1) (hw : W.grownBy W1 row) (hne : some g ≠ row) : IsS68 w0 W1 g f0 f1 := by
  obtain ⟨hb, hg⟩ := h
  exact ⟨blk_grown hb hw hne, hg⟩
theorem IsS68.kept {w0 W : World} {g : Nat} {f0 : Int} {f1 : Int} {W1 : World} {S : Nat → Prop} (h : IsS68 w0 W g f0 f1) (hk : Kept W W1 S) (hne : ¬ S g) : IsS68 w0 W1 g f0 f1 := by
  obtain ⟨hb, hg⟩ := h
  exact ⟨blk_kept hb hk hne, hg⟩
theorem IsS68.below {w0 W : World} {g : Nat} {f0 : Int} {f1 : Int} {W1 : World} (h : IsS68 w0 W g f0 f1) (hw : Below W.heap.size W W1) : IsS68 w0 W1 g f0 f1 := h.grown (grown_of_below hw none) (by simp)
theorem IsS68.alloc {w0 W : World} {g : Nat} {f0 : Int} {f1 : Int} (h : IsS68 w0 W g f0 f1) (o : Obj) : IsS68 w0 (W.alloc o) g f0 f1 := h.below (below_alloc (Below.refl _ _) o)
theorem IsS68.drewN {w0 W : World} {g : Nat} {f0 : Int} {f1 : Int} (h : IsS68 w0 W g f0 f1) (m : Nat) : IsS68 w0 (W.drewN m) g f0 f1 := h
theorem IsS68.drew {w0 W : World} {g : Nat} {f0 : Int} {f1 : Int} (h : IsS68 w0 W g f0 f1) : IsS68 w0 W.drew g f0 f1 := h
theorem IsS68.at_ {w0 W : World} {g : Nat} {f0 : Int} {f1 : Int} {w' : World} {m : Nat} (hq : W.drewN m = w') (h : IsS68 w0 W g f0 f1) : IsS68 w0 w' g f0 f1 := by subst hq; exact IsS68.drewN h m
theorem IsS68.apart {w0 W : World} {g : Nat} {f0 : Int} {f1 : Int} {α : Type} {d : Kd α} {e : Nat} {base : Nat} {ok : Nat → Prop} {v : Value} {xs : List α} (h : IsS68 w0 W g f0 f1) (ho : d.R e W base ok v xs) (ht : ∀ q, q ∈ e :: d.E → q ≠ 68) : d.R e W base (fun k => ok k ∧ k ≠ g) v xs := by
  obtain ⟨hb, hg⟩ := h
  exact Kd.R_types ho hb ht
theorem IsS68.own_ne {w0 W : World} {g : Nat} {f0 : Int} {f1 : Int} {α : Type} {d : Kd α} {e : Nat} {base : Nat} {ok : Nat → Prop} {v : Value} {xs : List α} (h : IsS68 w0 W g f0 f1) (ho : d.R e W base ok v xs) (ht : e ≠ 68) : some g ≠ v.ownBlock := by
  obtain ⟨hb, hg⟩ := h
  exact Kd.R_ne ho hb ht
theorem IsS68.ge {w0 W : World} {g : Nat} {f0 : Int} {f1 : Int} (h : IsS68 w0 W g f0 f1) : w0.heap.size ≤ g := by
  obtain ⟨hb, hg⟩ := h
  exact hg
theorem cellS68_0 {W : World} {g : Nat} {f0 : Int} {f1 : Int} (h : W.heap[g]? = some (.cells #[.int .i16 f0, .int .i8 f1] 68 (0, 0))) : W.cell? ⟨g, 0, none⟩ = some (.int .i16 f0) := (blk_cell h 0).trans rfl
theorem cellS68_1 {W : World} {g : Nat} {f0 : Int} {f1 : Int} (h : W.heap[g]? = some (.cells #[.int .i16 f0, .int .i8 f1] 68 (0, 0))) : W.cell? ⟨g, 1, none⟩ = some (.int .i8 f1) := (blk_cell h 1).trans rfl
theorem IsS68.new (w0 W : World) (f0 : Int) (f1 : Int) (hB : Below w0.heap.size w0 W) : IsS68 w0 (W.alloc (.cells #[.int .i16 f0, .int .i8 f1] 68)) W.heap.size f0 f1 := ⟨by simpa using heap_alloc_new W _, hB.size⟩
def spec_l06Sheet.f (s0_0 : Int) (s0_1 : Int) : Option (Bool) := (spec_l00In.f (wrap64 (s0_0)) 1 400).bind fun t1501 => (if t1501 = true then ((spec_l00In.f (wrap64 (s0_1)) 0 5).bind fun t1502 => (some t1502)) else (some false))
set_option maxHeartbeats 8000000 in
set_option maxRecDepth 100000 in
theorem spec_l06Sheet.calls (g : Nat) (s0_0 : Int) (s0_1 : Int) (r : Bool) (w0 w : World) (hI : IsS68 w0 w g s0_0 s0_1) (hB : Below w0.heap.size w0 w) (h : spec_l06Sheet.f s0_0 s0_1 = some r) :
    Calls Tryd.prog 141 #[.pointer (some ⟨g, 0, none⟩)] w fun e w' => e = .returned (.bool r) ∧ IsS68 w0 w' g s0_0 s0_1 ∧ Below w0.heap.size w0 w' ∧ KeepBut w w' g none := by
  have HI0 := Aside0.mk hI
  have HK := Aside0.mk (KeepBut.refl w g none)
  have HL := Aside0.mk hB.size
  clear hI
  have HW0 := Aside0.mk hB.size
  have HB := Aside0.mk hB
  clear hB
  have H : ((spec_l00In.f (wrap64 (s0_0)) 1 400).bind fun t1501 => (if t1501 = true then ((spec_l00In.f (wrap64 (s0_1)) 0 5).bind fun t1502 => (some t1502)) else (some false))) = some r := h
  clear h
  replace H := Option.bind_eq_some_iff.mp H
  obtain ⟨t1501, A20, H⟩ := H
  replace H : (if t1501 = true then ((spec_l00In.f (wrap64 (s0_1)) 0 5).bind fun t1502 => (some t1502)) else (some false)) = some r := H
  have A2 := Aside0.mk A20
  clear A20
  by_cases c3 : t1501 = true
  · subst c3
    have H1 : ((spec_l00In.f (wrap64 (s0_1)) 0 5).bind fun t1502 => (some t1502)) = some r := by rw [if_pos rfl] at H; exact H
    clear H
    have H := H1
    clear H1
    replace H := Option.bind_eq_some_iff.mp H
    obtain ⟨t1502, A40, H⟩ := H
    replace H : (some t1502) = some r := H
    have A4 := Aside0.mk A40
    clear A40
    obtain rfl := Option.some.inj H
    obtain ⟨HGz5, hgz5⟩ := HI0.out
    have hcz5_0 := cellS68_0 HGz5
    have hcz5_1 := cellS68_1 HGz5
    clear HGz5 hgz5
    go_enter Tryd.func141, Tryd.ntmps141
    go_wp2_with (first | ((with_reducible refine gate_callee (f := 84) rfl ?_); refine goesL_ (some 8) rfl rfl Tryd.func84 (by kernel_rfl) rfl #[.int .i64 (wrap64 (s0_0)), .int .i64 1, .int .i64 400] rfl (by (try simp only [List.map_toArray, List.map_cons, List.map_nil]); first | done | rfl | (simp only [List.length_drop, List.length_take]; rfl)) ?_; (with_reducible refine (spec_l00In.calls (wrap64 (s0_0)) 1 400 true _ A2.out).mono ?_); rintro e w' ⟨rfl, ⟨nd, rfl⟩⟩; refine ⟨_, rfl, ?_⟩) | (go_at_call 84; (with_reducible refine (spec_l00In.calls (wrap64 (s0_1)) 0 5 t1502 _ A4.out).mono ?_); rintro e w' ⟨rfl, ⟨nd, rfl⟩⟩))
    go_ret
    exact ⟨by first | rfl | (simp [errW_none, errW_some] <;> rfl) | (simp [*, errW_none, errW_some] <;> rfl), by repeat (first | (with_reducible first | exact HI0.out | apply IsS68.alloc | apply IsS68.drewN | apply IsS68.drew) | exact HI0.out), by repeat (first | (with_reducible first | exact HB.out | apply below_alloc | apply pw_below_drewN | apply below_drew1 | refine below_set ?_ (IsS68.ge HI0.out)) | exact HB.out), by repeat (first | (with_reducible first | exact HK.out | apply KeepBut.set_ | apply keep_drewN | apply keep_drew | apply keep_alloc) | exact HK.out)⟩
  · replace c3 := Bool.eq_false_iff.mpr c3
    subst c3
    have H1 : (some false) = some r := by rw [if_neg (show ¬ (false = true) by decide)] at H; exact H
    clear H
    have H := H1
    clear H1
    obtain rfl := Option.some.inj H
    obtain ⟨HGz6, hgz6⟩ := HI0.out
    have hcz6_0 := cellS68_0 HGz6
    have hcz6_1 := cellS68_1 HGz6
    clear HGz6 hgz6
    go_enter Tryd.func141, Tryd.ntmps141
    go_wp2_with (first | ((with_reducible refine gate_callee (f := 84) rfl ?_); refine goesL_ (some 8) rfl rfl Tryd.func84 (by kernel_rfl) rfl #[.int .i64 (wrap64 (s0_0)), .int .i64 1, .int .i64 400] rfl (by (try simp only [List.map_toArray, List.map_cons, List.map_nil]); first | done | rfl | (simp only [List.length_drop, List.length_take]; rfl)) ?_; (with_reducible refine (spec_l00In.calls (wrap64 (s0_0)) 1 400 false _ A2.out).mono ?_); rintro e w' ⟨rfl, ⟨nd, rfl⟩⟩; refine ⟨_, rfl, ?_⟩))
    go_ret
    exact ⟨by first | rfl | (simp [errW_none, errW_some] <;> rfl) | (simp [*, errW_none, errW_some] <;> rfl), by repeat (first | (with_reducible first | exact HI0.out | apply IsS68.alloc | apply IsS68.drewN | apply IsS68.drew) | exact HI0.out), by repeat (first | (with_reducible first | exact HB.out | apply below_alloc | apply pw_below_drewN | apply below_drew1 | refine below_set ?_ (IsS68.ge HI0.out)) | exact HB.out), by repeat (first | (with_reducible first | exact HK.out | apply KeepBut.set_ | apply keep_drewN | apply keep_drew | apply keep_alloc) | exact HK.out)⟩
end Go.Proofs.YticjkfacdmmopaaDoor.Q
namespace Go.Proofs.YticjkfacdmmopaaDoor.Pure
open Go.RowKit Go.Proofs.YticjkfacdmmopaaDoor.Ext Go.Proofs.YticjkfacdmmopaaDoor.Q Go.Proofs.YticjkfacdmmopaaDoorW.PrintWords Go.Proofs.YticjkfacdmmopaaDoorW.PrintLast Go.Proofs.YticjkfacdmmopaaDoorW.PrintMore
set_option linter.unusedVariables false
set_option linter.unusedSimpArgs false
end Go.Proofs.YticjkfacdmmopaaDoor.Pure
