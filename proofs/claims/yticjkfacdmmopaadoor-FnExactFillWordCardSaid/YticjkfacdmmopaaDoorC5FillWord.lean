/- Contracts and plain laws of functions of the given program; no conditions beside those in the theorems. -/
import Derived.Test.YticjkfacdmmopaaDoorC3FillWord
import Derived.Test.YticjkfacdmmopaaDoorC4FillWord
import Derived.Test.YticjkfacdmmopaaDoorC0FillWord
import Derived.Test.YticjkfacdmmopaaDoorWMore
namespace Go.Proofs.YticjkfacdmmopaaDoor.Ext
end Go.Proofs.YticjkfacdmmopaaDoor.Ext
namespace Go.Proofs.YticjkfacdmmopaaDoor.Q
open Go.Proofs.YticjkfacdmmopaaDoor.Ext
open Go.RowKit Go.Proofs.YticjkfacdmmopaaDoorW.PrintWords Go.Proofs.YticjkfacdmmopaaDoorW.PrintLast Go.Proofs.YticjkfacdmmopaaDoorW.PrintMore
attribute [local go_sem] max2_int min2_int max_two min_two max_three min_three max_four min_four
set_option linter.unusedVariables false
set_option linter.unusedSimpArgs false
def laws_eqInt64S.l0 : Nat → List Int → List Int → Int → Option (Bool)
 | 0, _, _, _ => none
 | k + 1, x0, x1, x5 => if x5 < (x0.length : Int) then (if 0 ≤ x5 then (if x5 < (x1.length : Int) then (if (rd x0 x5) = (rd x1 x5) then (laws_eqInt64S.l0 k x0 x1 (wrap64 (x5 + 1))) else (some false)) else (none)) else (none)) else (some true)
def laws_eqInt64S.f (k : Nat) (l0 : List Int) (l1 : List Int) : Option (Bool) := if (l0.length : Int) = (l1.length : Int) then (laws_eqInt64S.l0 k l0 l1 0) else (some false)
set_option maxHeartbeats 8000000 in
set_option maxRecDepth 100000 in
theorem laws_eqInt64S.calls (k : Nat) (A0 : Option Addr) (c0 : Nat) (l0 : List Int) (A1 : Option Addr) (c1 : Nat) (l1 : List Int) (r : Bool) (w : World) (hr0 : Kd.C (Kd.int .i64) w A0 l0.length l0) (hc0 : l0.length ≤ c0) (hr1 : Kd.C (Kd.int .i64) w A1 l1.length l1) (hc1 : l1.length ≤ c1) (h : laws_eqInt64S.f k l0 l1 = some r) :
  Calls Tryd.prog 29 #[.slice A0 l0.length c0, .slice A1 l1.length c1] w fun e w' => e = .returned (.bool r) ∧ Drawn0 w w' := by
 have HR0 := Aside0.mk hr0
 have HC0 := Aside0.mk hc0
 clear hr0 hc0
 have HR1 := Aside0.mk hr1
 have HC1 := Aside0.mk hc1
 clear hr1 hc1
 have H : (if (l0.length : Int) = (l1.length : Int) then (laws_eqInt64S.l0 k l0 l1 0) else (some false)) = some r := h
 clear h
 by_cases c3 : (l0.length : Int) = (l1.length : Int)
 ·rw [if_pos c3] at H
  have c3b0 : ((l0.length : Int) == (l1.length : Int)) = true := beq_iff_eq.mpr c3
  have c3b1 : ((l0.length : Int) != (l1.length : Int)) = false := bne_eq_false_iff_eq.mpr c3
  have c3b2 : (l0.length == l1.length) = true := by first | simpa using c3 | (simp at c3 ⊢; omega)
  clear c3
  have H' := Aside0.mk H
  clear H
  go_enter Tryd.func29, Tryd.ntmps29
  go_wp2
  repeat (go_quiet (fail); try go_wp2)
  go_loopg [5] k (fun kq v5 w' => ∃ (x5_1 : Int), v5 = .int .i64 x5_1 ∧ Aside0 (laws_eqInt64S.l0 kq l0 l1 x5_1 = some r) ∧ Aside0 (kq ≤ k) ∧ Drawn0 w w')
  case atStart => exact ⟨(0), (by first | rfl | (simp; done) | (simp [*]; done)), H', ⟨Nat.le_refl _⟩, by repeat (first | exact Drawn0.refl _ | apply Drawn0.step)⟩
  case round =>
   clear H'
   try clear c1
   try clear c2
   try clear p2
   try clear c3
   try clear c3b0
   try clear c3b1
   try clear c3b2
   obtain ⟨x5_1, rfl, HA, HK1, ⟨m1, rfl⟩⟩ := hrel
   cases gk with
   | zero => exact absurd HA.out (by simp [laws_eqInt64S.l0])
   | succ k1 =>
    have H := HA.out
    clear HA
    simp only [laws_eqInt64S.l0] at H
    by_cases c4 : x5_1 < (l0.length : Int)
    ·rw [if_pos c4] at H
     have c4b0 : decide (x5_1 < (l0.length : Int)) = true := decide_eq_true c4
     clear c4
     by_cases c5 : 0 ≤ x5_1
     ·rw [if_pos c5] at H
      have c5b0 : decide (0 ≤ x5_1) = true := decide_eq_true c5
      clear c5
      by_cases c6 : x5_1 < (l1.length : Int)
      ·rw [if_pos c6] at H
       have c6b0 : decide (x5_1 < (l1.length : Int)) = true := decide_eq_true c6
       clear c6
       by_cases c7 : (rd l0 x5_1) = (rd l1 x5_1)
       ·rw [if_pos c7] at H
        have c7b0 : ((rd l0 x5_1) == (rd l1 x5_1)) = true := beq_iff_eq.mpr c7
        have c7b1 : ((rd l0 x5_1) != (rd l1 x5_1)) = false := bne_eq_false_iff_eq.mpr c7
        clear c7
        have H' := Aside0.mk H
        clear H
        have p578 : 0 ≤ (x5_1 : Int) := of_decide_eq_true (by first | (with_reducible assumption) | assumption)
        have q578 : x5_1 < (l0.length : Int) := of_decide_eq_true (by first | (with_reducible assumption) | assumption)
        obtain ⟨ad578, e578, hx578_0⟩ := Kd.at_int HR0.out x5_1 p578 q578
        cases e578
        replace p578 := eq_true p578
        replace q578 := eq_true q578
        have p579 : 0 ≤ (x5_1 : Int) := of_decide_eq_true (by first | (with_reducible assumption) | assumption)
        have q579 : x5_1 < (l1.length : Int) := of_decide_eq_true (by first | (with_reducible assumption) | assumption)
        obtain ⟨ad579, e579, hx579_0⟩ := Kd.at_int HR1.out x5_1 p579 q579
        cases e579
        replace p579 := eq_true p579
        replace q579 := eq_true q579
        go_wp2
        repeat (go_quiet (fail); try go_wp2)
        go_roundg k1
        case measure => have := HK1.out; omega
        case rel => exact ⟨(wrap64 (x5_1 + 1)), (by first | rfl | (simp; done) | (simp [*]; done)), H', ⟨by have := HK1.out; omega⟩, by repeat (first | exact Drawn0.refl _ | apply Drawn0.step)⟩
       ·rw [if_neg c7] at H
        have c7b0 : ((rd l0 x5_1) == (rd l1 x5_1)) = false := beq_eq_false_iff_ne.mpr c7
        have c7b1 : ((rd l0 x5_1) != (rd l1 x5_1)) = true := bne_iff_ne.mpr c7
        obtain rfl := Option.some.inj H
        have p578 : 0 ≤ (x5_1 : Int) := of_decide_eq_true (by first | (with_reducible assumption) | assumption)
        have q578 : x5_1 < (l0.length : Int) := of_decide_eq_true (by first | (with_reducible assumption) | assumption)
        obtain ⟨ad578, e578, hx578_0⟩ := Kd.at_int HR0.out x5_1 p578 q578
        cases e578
        replace p578 := eq_true p578
        replace q578 := eq_true q578
        have p579 : 0 ≤ (x5_1 : Int) := of_decide_eq_true (by first | (with_reducible assumption) | assumption)
        have q579 : x5_1 < (l1.length : Int) := of_decide_eq_true (by first | (with_reducible assumption) | assumption)
        obtain ⟨ad579, e579, hx579_0⟩ := Kd.at_int HR1.out x5_1 p579 q579
        cases e579
        replace p579 := eq_true p579
        replace q579 := eq_true q579
        go_wp2
        repeat (go_quiet (fail); try go_wp2)
        go_ret
        exact ⟨by first | rfl | (simp; done) | (simp [*]; done), by repeat (first | exact Drawn0.refl _ | apply Drawn0.step)⟩
      ·rw [if_neg c6] at H
       exact absurd H (by simp)
     ·rw [if_neg c5] at H
      exact absurd H (by simp)
    ·rw [if_neg c4] at H
     have c4b0 : decide (x5_1 < (l0.length : Int)) = false := decide_eq_false c4
     clear c4
     obtain rfl := Option.some.inj H
     go_wp2
     repeat (go_quiet (fail); try go_wp2)
     go_ret
     exact ⟨by first | rfl | (simp; done) | (simp [*]; done), by repeat (first | exact Drawn0.refl _ | apply Drawn0.step)⟩
 ·rw [if_neg c3] at H
  have c3b0 : ((l0.length : Int) == (l1.length : Int)) = false := beq_eq_false_iff_ne.mpr c3
  have c3b1 : ((l0.length : Int) != (l1.length : Int)) = true := bne_iff_ne.mpr c3
  have c3b2 : (l0.length == l1.length) = false := by first | simpa using c3 | (simp at c3 ⊢; omega)
  obtain rfl := Option.some.inj H
  go_enter Tryd.func29, Tryd.ntmps29
  go_wp2
  repeat (go_quiet (fail); try go_wp2)
  go_ret
  exact ⟨by first | rfl | (simp; done) | (simp [*]; done), by repeat (first | exact Drawn0.refl _ | apply Drawn0.step)⟩
def laws_markPairS.l0 : Nat → List (S137) → Int → Int → Option (Int × (List (S137)))
 | 0, _, _, _ => none
 | k + 1, x0, x1, x5 => if x5 < (x0.length : Int) then (if 0 ≤ x5 then ((some (x0.set (x5 : Int).toNat (⟨(x1) % 256, (rd_T137 x0 x5).f1, (rd_T137 x0 x5).f2⟩ : S137) : List (S137))).bind fun y580 => ((some (y580.set (x5 : Int).toNat (⟨(rd_T137 y580 x5).f0, (wrap64 (x1 + 1)) % 256, (rd_T137 y580 x5).f2⟩ : S137) : List (S137))).bind fun y581 => (laws_markPairS.l0 k (y581.set (x5 : Int).toNat (⟨(rd_T137 y581 x5).f0, (rd_T137 y581 x5).f1, IntKind.i8.wrap (wrap64 ((wrap64 (x1 + 1)) + 1))⟩ : S137)) (wrap64 ((wrap64 ((wrap64 (x1 + 1)) + 1)) + 1)) (wrap64 (x5 + 1))))) else (none)) else (some (x1, x0))
def laws_markPairS.f (k : Nat) (l0 : List (S137)) (a1 : Int) : Option (Int × (List (S137))) := laws_markPairS.l0 k l0 a1 0
set_option maxHeartbeats 8000000 in
set_option maxRecDepth 100000 in
theorem laws_markPairS.calls (k : Nat) (P0_ : Nat → Prop) (u9000_ : Value) (l0 : List (S137)) (a1 : Int) (r1 : Int) (r2 : List (S137)) (w0 w : World) (hB : Below w0.heap.size w0 w) (ho0 : Kd.R k137 137 w w0.heap.size P0_ u9000_ l0) (h : laws_markPairS.f k l0 a1 = some (r1, r2)) :
  Calls Tryd.prog 81 #[u9000_, .int .i64 a1] w fun e w' => e = .returned (.int .i64 r1) ∧ Kd.R k137 137 w' w0.heap.size (fun k_ => (P0_ k_ ∨ w.heap.size ≤ k_)) u9000_ r2 ∧ Below w0.heap.size w0 w' ∧ Kept w w' (fun k_ => P0_ k_) := by
 have HO0 := Aside0.mk (show Kd.R k137 137 w w0.heap.size (fun k_ => (P0_ k_ ∨ w.heap.size ≤ k_)) u9000_ l0 from Kd.R_mono ho0 (fun k_ hk => (.inl hk)))
 have HK := Aside0.mk (Kept.refl w (fun k_ => P0_ k_))
 have HW0 := Aside0.mk hB.size
 have HB := Aside0.mk hB
 clear hB
 have H : (laws_markPairS.l0 k l0 a1 0) = some (r1, r2) := h
 clear h
 have H' := Aside0.mk H
 clear H
 go_enter Tryd.func81, Tryd.ntmps81
 go_wp2
 go_loopg [1, 5] k (fun kq v1 v5 w' => ∃ (x0_1 : List (S137)) (x1_1 : Int) (x5_1 : Int), v1 = .int .i64 x1_1 ∧ v5 = .int .i64 x5_1 ∧ Aside0 (laws_markPairS.l0 kq x0_1 x1_1 x5_1 = some (r1, r2)) ∧ Aside0 (kq ≤ k) ∧ Aside0 (Kd.R k137 137 w' w0.heap.size (fun k_ => (P0_ k_ ∨ w.heap.size ≤ k_)) u9000_ x0_1) ∧ Aside0 (Kept w w' (fun k_ => P0_ k_)) ∧ Aside0 (Below w0.heap.size w0 w'))
 case atStart => exact ⟨(l0), (a1), (0), (by first | rfl | (simp; done) | (simp [*]; done)), (by first | rfl | (simp; done) | (simp [*]; done)), H', ⟨Nat.le_refl _⟩, ⟨by (with_reducible repeat (first | apply Kd.R_alloc | apply Kd.R_drewN | apply Kd.R_drew)); exact HO0.out⟩, ⟨by repeat (first | (with_reducible first | exact HK.out | apply Kept.alloc | apply Kept.drewN | apply Kept.drew) | exact HK.out)⟩, ⟨by repeat (first | (with_reducible first | exact HB.out | apply bwA | apply pwN | apply bw1) | exact HB.out)⟩⟩
 case round =>
  clear H'
  try clear p2
  obtain ⟨x0_1, x1_1, x5_1, rfl, rfl, HA, HK1, HO_0, HK, HB⟩ := hrel
  cases gk with
  | zero => exact absurd HA.out (by simp [laws_markPairS.l0])
  | succ k1 =>
   have H := HA.out
   clear HA
   simp only [laws_markPairS.l0] at H
   by_cases c3 : x5_1 < (x0_1.length : Int)
   ·rw [if_pos c3] at H
    have c3b0 : decide (x5_1 < (x0_1.length : Int)) = true := decide_eq_true c3
    clear c3
    by_cases c4 : 0 ≤ x5_1
    ·rw [if_pos c4] at H
     have c4b0 : decide (0 ≤ x5_1) = true := decide_eq_true c4
     clear c4
     obtain ⟨y580, hy580⟩ : ∃ y_ : List (S137), y_ = (x0_1.set (x5_1 : Int).toNat (⟨(x1_1) % 256, (rd_T137 x0_1 x5_1).f1, (rd_T137 x0_1 x5_1).f2⟩ : S137)) := ⟨_, rfl⟩
     replace H : ((some (y580.set (x5_1 : Int).toNat (⟨(rd_T137 y580 x5_1).f0, (wrap64 (x1_1 + 1)) % 256, (rd_T137 y580 x5_1).f2⟩ : S137) : List (S137))).bind fun y581 => (laws_markPairS.l0 k1 (y581.set (x5_1 : Int).toNat (⟨(rd_T137 y581 x5_1).f0, (rd_T137 y581 x5_1).f1, IntKind.i8.wrap (wrap64 ((wrap64 (x1_1 + 1)) + 1))⟩ : S137)) (wrap64 ((wrap64 ((wrap64 (x1_1 + 1)) + 1)) + 1)) (wrap64 (x5_1 + 1)))) = some (r1, r2) := by first | (rw [hy580]; with_reducible exact H) | (have H2_ := (Option.bind_some _ _).symm.trans H; rw [hy580]; with_reducible exact H2_) | (have H2_ := (Option.bind_some _ _).symm.trans H; with_reducible exact H2_) | with_reducible exact H | (rw [hy580]; exact H) | exact H
     have Ny580 := Aside0.mk hy580
     clear hy580
     obtain ⟨y581, hy581⟩ : ∃ y_ : List (S137), y_ = (y580.set (x5_1 : Int).toNat (⟨(rd_T137 y580 x5_1).f0, (wrap64 (x1_1 + 1)) % 256, (rd_T137 y580 x5_1).f2⟩ : S137)) := ⟨_, rfl⟩
     replace H : (laws_markPairS.l0 k1 (y581.set (x5_1 : Int).toNat (⟨(rd_T137 y581 x5_1).f0, (rd_T137 y581 x5_1).f1, IntKind.i8.wrap (wrap64 ((wrap64 (x1_1 + 1)) + 1))⟩ : S137)) (wrap64 ((wrap64 ((wrap64 (x1_1 + 1)) + 1)) + 1)) (wrap64 (x5_1 + 1))) = some (r1, r2) := by first | (rw [hy581]; with_reducible exact H) | (have H2_ := (Option.bind_some _ _).symm.trans H; rw [hy581]; with_reducible exact H2_) | (have H2_ := (Option.bind_some _ _).symm.trans H; with_reducible exact H2_) | with_reducible exact H | (rw [hy581]; exact H) | exact H
     have Ny581 := Aside0.mk hy581
     clear hy581
     obtain ⟨y582, hy582⟩ : ∃ y_ : List (S137), y_ = (y581.set (x5_1 : Int).toNat (⟨(rd_T137 y581 x5_1).f0, (rd_T137 y581 x5_1).f1, IntKind.i8.wrap (wrap64 ((wrap64 (x1_1 + 1)) + 1))⟩ : S137)) := ⟨_, rfl⟩
     replace H : (laws_markPairS.l0 k1 y582 (wrap64 ((wrap64 ((wrap64 (x1_1 + 1)) + 1)) + 1)) (wrap64 (x5_1 + 1))) = some (r1, r2) := by first | (rw [hy582]; with_reducible exact H) | (have H2_ := (Option.bind_some _ _).symm.trans H; rw [hy582]; with_reducible exact H2_) | (have H2_ := (Option.bind_some _ _).symm.trans H; with_reducible exact H2_) | with_reducible exact H | (rw [hy582]; exact H) | exact H
     have Ny582 := Aside0.mk hy582
     clear hy582
     have H' := Aside0.mk H
     clear H
     obtain ⟨Ao8, co8, eo8⟩ := Kd.R_slice HO_0.out
     subst eo8
     have p5 : 0 ≤ (x5_1 : Int) := of_decide_eq_true (by first | (with_reducible assumption) | assumption)
     have q5 : (x5_1 : Int) < ((x0_1.length : Int) : Int) := of_decide_eq_true (by first | (with_reducible assumption) | assumption)
     obtain ⟨go5, co5, eo5, gb5, gl5, cl5, HG5⟩ := Kd.R_form HO_0.out (by omega)
     (first | cases eo5 | (injection eo5 with ea_ en_ ec_; (first | subst ea_ | (injection ea_ with ea_; subst ea_)); subst ec_; clear en_))
     have GB5 := Aside0.mk gb5
     have GG5 := Aside0.mk HG5
     clear gb5 gl5 HG5
     have HMgo5 := Aside0.mk (show (P0_ go5 ∨ w.heap.size ≤ go5) from (HO_0.out.1 _ rfl))
     obtain ⟨ce5, hcl5, hM5, hcc5, hfr5⟩ := Kd.R_elem HO_0.out z137 (x5_1 : Int) p5 q5
     obtain rfl := k137_openM hM5
     have hx5_0 : wr.cell? ⟨go5, (x5_1 : Int).toNat * 3, none⟩ = some (.int .u8 ((rd_T137 x0_1 x5_1).f0)) := hcc5 0 _ rfl
     have hx5_1 : wr.cell? ⟨go5, (x5_1 : Int).toNat * 3 + 1, none⟩ = some (.int .u8 ((rd_T137 x0_1 x5_1).f1)) := hcc5 1 _ rfl
     have hx5_2 : wr.cell? ⟨go5, (x5_1 : Int).toNat * 3 + 2, none⟩ = some (.int .i8 ((rd_T137 x0_1 x5_1).f2)) := hcc5 2 _ rfl
     have hf5_0 : wr.frozen? ⟨go5, (x5_1 : Int).toNat * 3, none⟩ = false := hfr5 0
     have hf5_1 : wr.frozen? ⟨go5, (x5_1 : Int).toNat * 3 + 1, none⟩ = false := hfr5 1
     have hf5_2 : wr.frozen? ⟨go5, (x5_1 : Int).toNat * 3 + 2, none⟩ = false := hfr5 2
     clear hcl5 hcc5 hfr5 hM5
     replace p5 := eq_true p5
     replace q5 := eq_true q5
     have HX9 := Aside0.mk (show Kd.R k137 137 wr w0.heap.size (fun k_ => (P0_ k_ ∨ w.heap.size ≤ k_)) (.slice (some ⟨go5, 0, none⟩) x0_1.length co8) x0_1 from (by (with_reducible repeat (first | apply Kd.R_alloc | apply Kd.R_drewN | apply Kd.R_drew)); exact HO_0.out))
     obtain ⟨ce9, hcl9, hM9, hcc9, hfr9⟩ := Kd.R_elem HX9.out z137 (x5_1 : Int) (of_decide_eq_true (by first | (with_reducible assumption) | assumption)) (by have h_ : (x5_1 : Int) < ((x0_1.length : Int) : Int) := of_decide_eq_true (by first | (with_reducible assumption) | assumption); first | exact h_ | (have e_ := (Kd.R_reads' HO_0.out).1; omega) | simpa using h_)
     obtain rfl := k137_openM hM9
     have HP9 := Kd.R_seg HX9.out (x5_1 : Int) (of_decide_eq_true (by first | (with_reducible assumption) | assumption)) (by have h_ : (x5_1 : Int) < ((x0_1.length : Int) : Int) := of_decide_eq_true (by first | (with_reducible assumption) | assumption); first | exact h_ | (have e_ := (Kd.R_reads' HO_0.out).1; omega) | simpa using h_) (seg := [.int .u8 ((x1_1) % 256)]) (j := 0) hcl9 hcc9 (show 1 ≤ 3 from by decide) (x' := (⟨(x1_1) % 256, (rd_T137 x0_1 x5_1).f1, (rd_T137 x0_1 x5_1).f2⟩ : S137)) (k137_mkM _ _ _ (⟨(x1_1) % 256, (rd_T137 x0_1 x5_1).f1, (rd_T137 x0_1 x5_1).f2⟩ : S137) ) (fun _ hk => hk)
     have hx9_0 := hcc9 0 _ rfl
     (try simp only [show (k137).sz = 3 from rfl, Nat.mul_one, Nat.add_zero] at hx9_0)
     have hf9_0 := hfr9 0
     (try simp only [show (k137).sz = 3 from rfl, Nat.mul_one, Nat.add_zero] at hf9_0)
     clear hcl9 hcc9 hfr9 hM9
     go_wp2_with (first | ((with_reducible refine gate_store (t := 5) (p := 17) rfl ?_); refine store_event (t := 5) (p := 17) (v := ?vo_w10) (w1 := (wr.setCell ⟨go5, (x5_1 : Int).toNat * 3, none⟩ (.int .u8 ((x1_1) % 256)))) ?hg ?ho ?hn ?hr ?_; (case ho => rfl); (case hg => rfl); (case hn => rfl); (case hr => first | (go_simp; done) | (go_simp; rfl)); intro w10 hw; have hg : wr.grownBy w10 (some go5) := (by rw [hw]; exact HP9.2); have hp_ : Kd.R k137 137 w10 w0.heap.size (fun k_ => (P0_ k_ ∨ w.heap.size ≤ k_)) (.slice (some ⟨go5, 0, none⟩) x0_1.length co8) y580 := (by rw [hw, Ny580.out]; exact HP9.1); clear HP9; have n0_ := Aside0.mk (hp_); have n1_ := Aside0.mk ((by rw [hw]; exact below_set (HB.out) GB5.out : Below w0.heap.size w0 w10)); have n2_ := Aside0.mk (Kept.of_grown (S := (fun k_ => P0_ k_)) hg (by repeat (first | (with_reducible first | exact HK.out | apply Kept.alloc | apply Kept.drewN | apply Kept.drew) | exact HK.out)) (fun k_ e_ => (HO_0.out.1 k_ e_))); clear HO_0; clear HB; clear HK; have HO_0 := n0_; have HB := n1_; have HK := n2_; clear n0_ n1_ n2_; clear hg hw hp_; have p6 : 0 ≤ (x5_1 : Int) := of_decide_eq_true (by first | (with_reducible assumption) | assumption); have q6 : (x5_1 : Int) < ((x0_1.length : Int) : Int) := of_decide_eq_true (by first | (with_reducible assumption) | assumption); obtain ⟨ce6, hcl6, hM6, hcc6, hfr6⟩ := Kd.R_elem HO_0.out z137 (x5_1 : Int) p6 q6; obtain rfl := k137_openM hM6; have hx6_0 : w10.cell? ⟨go5, (x5_1 : Int).toNat * 3, none⟩ = some (.int .u8 ((rd_T137 y580 x5_1).f0)) := hcc6 0 _ rfl; have hx6_1 : w10.cell? ⟨go5, (x5_1 : Int).toNat * 3 + 1, none⟩ = some (.int .u8 ((rd_T137 y580 x5_1).f1)) := hcc6 1 _ rfl; have hx6_2 : w10.cell? ⟨go5, (x5_1 : Int).toNat * 3 + 2, none⟩ = some (.int .i8 ((rd_T137 y580 x5_1).f2)) := hcc6 2 _ rfl; have hf6_0 : w10.frozen? ⟨go5, (x5_1 : Int).toNat * 3, none⟩ = false := hfr6 0; have hf6_1 : w10.frozen? ⟨go5, (x5_1 : Int).toNat * 3 + 1, none⟩ = false := hfr6 1; have hf6_2 : w10.frozen? ⟨go5, (x5_1 : Int).toNat * 3 + 2, none⟩ = false := hfr6 2; clear hcl6 hcc6 hfr6 hM6; replace p6 := eq_true p6; replace q6 := eq_true q6; have HX11 := Aside0.mk (show Kd.R k137 137 w10 w0.heap.size (fun k_ => (P0_ k_ ∨ w.heap.size ≤ k_)) (.slice (some ⟨go5, 0, none⟩) x0_1.length co8) y580 from (by (with_reducible repeat (first | apply Kd.R_alloc | apply Kd.R_drewN | apply Kd.R_drew)); exact HO_0.out)); obtain ⟨ce11, hcl11, hM11, hcc11, hfr11⟩ := Kd.R_elem HX11.out z137 (x5_1 : Int) (of_decide_eq_true (by first | (with_reducible assumption) | assumption)) (by have h_ : (x5_1 : Int) < ((x0_1.length : Int) : Int) := of_decide_eq_true (by first | (with_reducible assumption) | assumption); first | exact h_ | (have e_ := (Kd.R_reads' HO_0.out).1; omega) | simpa using h_); obtain rfl := k137_openM hM11; have HP11 := Kd.R_seg HX11.out (x5_1 : Int) (of_decide_eq_true (by first | (with_reducible assumption) | assumption)) (by have h_ : (x5_1 : Int) < ((x0_1.length : Int) : Int) := of_decide_eq_true (by first | (with_reducible assumption) | assumption); first | exact h_ | (have e_ := (Kd.R_reads' HO_0.out).1; omega) | simpa using h_) (seg := [.int .u8 ((wrap64 (x1_1 + 1)) % 256)]) (j := 1) hcl11 hcc11 (show 2 ≤ 3 from by decide) (x' := (⟨(rd_T137 y580 x5_1).f0, (wrap64 (x1_1 + 1)) % 256, (rd_T137 y580 x5_1).f2⟩ : S137)) (k137_mkM _ _ _ (⟨(rd_T137 y580 x5_1).f0, (wrap64 (x1_1 + 1)) % 256, (rd_T137 y580 x5_1).f2⟩ : S137) ) (fun _ hk => hk); have hx11_1 := hcc11 1 _ rfl; (try simp only [show (k137).sz = 3 from rfl, Nat.mul_one, Nat.add_zero] at hx11_1); have hf11_1 := hfr11 1; (try simp only [show (k137).sz = 3 from rfl, Nat.mul_one, Nat.add_zero] at hf11_1); clear hcl11 hcc11 hfr11 hM11) | ((with_reducible refine gate_store (t := 5) (p := 25) rfl ?_); refine store_event (t := 5) (p := 25) (v := ?vo_w12) (w1 := (w10.setCell ⟨go5, (x5_1 : Int).toNat * 3 + 1, none⟩ (.int .u8 ((wrap64 (x1_1 + 1)) % 256)))) ?hg ?ho ?hn ?hr ?_; (case ho => rfl); (case hg => rfl); (case hn => rfl); (case hr => first | (go_simp; done) | (go_simp; rfl)); intro w12 hw; have hg : w10.grownBy w12 (some go5) := (by rw [hw]; exact HP11.2); have hp_ : Kd.R k137 137 w12 w0.heap.size (fun k_ => (P0_ k_ ∨ w.heap.size ≤ k_)) (.slice (some ⟨go5, 0, none⟩) x0_1.length co8) y581 := (by rw [hw, Ny581.out]; exact HP11.1); clear HP11; have n0_ := Aside0.mk (hp_); have n1_ := Aside0.mk ((by rw [hw]; exact below_set (HB.out) GB5.out : Below w0.heap.size w0 w12)); have n2_ := Aside0.mk (Kept.of_grown (S := (fun k_ => P0_ k_)) hg (by repeat (first | (with_reducible first | exact HK.out | apply Kept.alloc | apply Kept.drewN | apply Kept.drew) | exact HK.out)) (fun k_ e_ => (HO_0.out.1 k_ e_))); clear HO_0; clear HB; clear HK; have HO_0 := n0_; have HB := n1_; have HK := n2_; clear n0_ n1_ n2_; clear hg hw hp_; have p7 : 0 ≤ (x5_1 : Int) := of_decide_eq_true (by first | (with_reducible assumption) | assumption); have q7 : (x5_1 : Int) < ((x0_1.length : Int) : Int) := of_decide_eq_true (by first | (with_reducible assumption) | assumption); obtain ⟨ce7, hcl7, hM7, hcc7, hfr7⟩ := Kd.R_elem HO_0.out z137 (x5_1 : Int) p7 q7; obtain rfl := k137_openM hM7; have hx7_0 : w12.cell? ⟨go5, (x5_1 : Int).toNat * 3, none⟩ = some (.int .u8 ((rd_T137 y581 x5_1).f0)) := hcc7 0 _ rfl; have hx7_1 : w12.cell? ⟨go5, (x5_1 : Int).toNat * 3 + 1, none⟩ = some (.int .u8 ((rd_T137 y581 x5_1).f1)) := hcc7 1 _ rfl; have hx7_2 : w12.cell? ⟨go5, (x5_1 : Int).toNat * 3 + 2, none⟩ = some (.int .i8 ((rd_T137 y581 x5_1).f2)) := hcc7 2 _ rfl; have hf7_0 : w12.frozen? ⟨go5, (x5_1 : Int).toNat * 3, none⟩ = false := hfr7 0; have hf7_1 : w12.frozen? ⟨go5, (x5_1 : Int).toNat * 3 + 1, none⟩ = false := hfr7 1; have hf7_2 : w12.frozen? ⟨go5, (x5_1 : Int).toNat * 3 + 2, none⟩ = false := hfr7 2; clear hcl7 hcc7 hfr7 hM7; replace p7 := eq_true p7; replace q7 := eq_true q7; have HX13 := Aside0.mk (show Kd.R k137 137 w12 w0.heap.size (fun k_ => (P0_ k_ ∨ w.heap.size ≤ k_)) (.slice (some ⟨go5, 0, none⟩) x0_1.length co8) y581 from (by (with_reducible repeat (first | apply Kd.R_alloc | apply Kd.R_drewN | apply Kd.R_drew)); exact HO_0.out)); obtain ⟨ce13, hcl13, hM13, hcc13, hfr13⟩ := Kd.R_elem HX13.out z137 (x5_1 : Int) (of_decide_eq_true (by first | (with_reducible assumption) | assumption)) (by have h_ : (x5_1 : Int) < ((x0_1.length : Int) : Int) := of_decide_eq_true (by first | (with_reducible assumption) | assumption); first | exact h_ | (have e_ := (Kd.R_reads' HO_0.out).1; omega) | simpa using h_); obtain rfl := k137_openM hM13; have HP13 := Kd.R_seg HX13.out (x5_1 : Int) (of_decide_eq_true (by first | (with_reducible assumption) | assumption)) (by have h_ : (x5_1 : Int) < ((x0_1.length : Int) : Int) := of_decide_eq_true (by first | (with_reducible assumption) | assumption); first | exact h_ | (have e_ := (Kd.R_reads' HO_0.out).1; omega) | simpa using h_) (seg := [.int .i8 (IntKind.i8.wrap (wrap64 ((wrap64 (x1_1 + 1)) + 1)))]) (j := 2) hcl13 hcc13 (show 3 ≤ 3 from by decide) (x' := (⟨(rd_T137 y581 x5_1).f0, (rd_T137 y581 x5_1).f1, IntKind.i8.wrap (wrap64 ((wrap64 (x1_1 + 1)) + 1))⟩ : S137)) (k137_mkM _ _ _ (⟨(rd_T137 y581 x5_1).f0, (rd_T137 y581 x5_1).f1, IntKind.i8.wrap (wrap64 ((wrap64 (x1_1 + 1)) + 1))⟩ : S137) ) (fun _ hk => hk); have hx13_2 := hcc13 2 _ rfl; (try simp only [show (k137).sz = 3 from rfl, Nat.mul_one, Nat.add_zero] at hx13_2); have hf13_2 := hfr13 2; (try simp only [show (k137).sz = 3 from rfl, Nat.mul_one, Nat.add_zero] at hf13_2); clear hcl13 hcc13 hfr13 hM13) | ((with_reducible refine gate_store (t := 22) (p := 33) rfl ?_); refine store_event (t := 22) (p := 33) (v := ?vo_w14) (w1 := (w12.setCell ⟨go5, (x5_1 : Int).toNat * 3 + 2, none⟩ (.int .i8 (IntKind.i8.wrap (wrap64 ((wrap64 (x1_1 + 1)) + 1)))))) ?hg ?ho ?hn ?hr ?_; (case ho => rfl); (case hg => rfl); (case hn => rfl); (case hr => first | (go_simp; done) | (go_simp; rfl)); intro w14 hw; have hg : w12.grownBy w14 (some go5) := (by rw [hw]; exact HP13.2); have hp_ : Kd.R k137 137 w14 w0.heap.size (fun k_ => (P0_ k_ ∨ w.heap.size ≤ k_)) (.slice (some ⟨go5, 0, none⟩) x0_1.length co8) y582 := (by rw [hw, Ny582.out]; exact HP13.1); clear HP13; have n0_ := Aside0.mk (hp_); have n1_ := Aside0.mk ((by rw [hw]; exact below_set (HB.out) GB5.out : Below w0.heap.size w0 w14)); have n2_ := Aside0.mk (Kept.of_grown (S := (fun k_ => P0_ k_)) hg (by repeat (first | (with_reducible first | exact HK.out | apply Kept.alloc | apply Kept.drewN | apply Kept.drew) | exact HK.out)) (fun k_ e_ => (HO_0.out.1 k_ e_))); clear HO_0; clear HB; clear HK; have HO_0 := n0_; have HB := n1_; have HK := n2_; clear n0_ n1_ n2_; clear hg hw hp_))
     go_roundg k1
     case measure => have := HK1.out; omega
     case rel => exact ⟨(y582), (wrap64 ((wrap64 ((wrap64 (x1_1 + 1)) + 1)) + 1)), (wrap64 (x5_1 + 1)), (by first | rfl | (simp; done) | (simp [*]; done)), (by first | rfl | (simp; done) | (simp [*]; done)), H', ⟨by have := HK1.out; omega⟩, ⟨by (with_reducible repeat (first | apply Kd.R_alloc | apply Kd.R_drewN | apply Kd.R_drew)); exact HO_0.out⟩, ⟨by repeat (first | (with_reducible first | exact HK.out | apply Kept.alloc | apply Kept.drewN | apply Kept.drew) | exact HK.out)⟩, ⟨by repeat (first | (with_reducible first | exact HB.out | apply bwA | apply pwN | apply bw1) | exact HB.out)⟩⟩
    ·rw [if_neg c4] at H
     exact absurd H (by simp)
   ·rw [if_neg c3] at H
    have c3b0 : decide (x5_1 < (x0_1.length : Int)) = false := decide_eq_false c3
    clear c3
    simp only [Option.some.injEq, Prod.mk.injEq] at H
    obtain ⟨rfl, rfl⟩ := H
    obtain ⟨Ao15, co15, eo15⟩ := Kd.R_slice HO_0.out
    subst eo15
    go_wp2
    go_ret
    exact ⟨by first | rfl | (simp [errW_none, errW_some] <;> rfl) | (simp [*, errW_none, errW_some] <;> rfl), by (with_reducible repeat (first | apply Kd.R_alloc | apply Kd.R_drewN | apply Kd.R_drew)); exact HO_0.out, by repeat (first | (with_reducible first | exact HB.out | apply bwA | apply pwN | apply bw1) | exact HB.out), by repeat (first | (with_reducible first | exact HK.out | apply Kept.alloc | apply Kept.drewN | apply Kept.drew) | exact HK.out)⟩
def laws_markFace.f (k : Nat) (F0 F1 F2 F3 F4 F5 F6 F7 F8 F9 F10 F11 F12 F13 F14 F15 F16 F17 F18 F19 F20 F21 F22 F23 F24 F25 F26 F27 : Int) (l0_28 : List (S137)) (a1 : Int) : Option (Int × (List (S137))) := (laws_markPairS.f k l0_28 a1).bind fun bt584 => (some (bt584.1, bt584.2))
set_option maxHeartbeats 8000000 in
set_option maxRecDepth 100000 in
theorem laws_markFace.calls (k : Nat) (F0 F1 F2 F3 F4 F5 F6 F7 F8 F9 F10 F11 F12 F13 F14 F15 F16 F17 F18 F19 F20 F21 F22 F23 F24 F25 F26 F27 : Int) (P0_28_ : Nat → Prop) (u9000_ : Value) (l0_28 : List (S137)) (a1 : Int) (r1 : Int) (r2 : List (S137)) (w0 w : World) (hB : Below w0.heap.size w0 w) (ho0_28 : Kd.R k137 137 w w0.heap.size P0_28_ u9000_ l0_28) (h : laws_markFace.f k F0 F1 F2 F3 F4 F5 F6 F7 F8 F9 F10 F11 F12 F13 F14 F15 F16 F17 F18 F19 F20 F21 F22 F23 F24 F25 F26 F27 l0_28 a1 = some (r1, r2)) :
  Calls Tryd.prog 30 #[.agg #[.int .i8 F0, .int .i8 F1, .int .i8 F2, .int .i8 F3, .int .i8 F4, .int .i8 F5, .int .i8 F6, .int .i8 F7, .int .i8 F8, .int .i8 F9, .int .i8 F10, .int .i8 F11, .int .i8 F12, .int .i8 F13, .int .i8 F14, .int .i8 F15, .int .i8 F16, .int .i8 F17, .int .i8 F18, .int .i8 F19, .int .i8 F20, .int .i8 F21, .int .i8 F22, .int .i8 F23, .int .i8 F24, .int .i8 F25, .int .i8 F26, .int .i8 F27, u9000_], .int .i64 a1] w fun e w' => e = .returned (.int .i64 r1) ∧ Kd.R k137 137 w' w0.heap.size (fun k_ => (P0_28_ k_ ∨ w.heap.size ≤ k_)) u9000_ r2 ∧ Below w0.heap.size w0 w' ∧ Kept w w' (fun k_ => P0_28_ k_) := by
 have hu32 := Tryd.underlying32
 have HO0_28 := Aside0.mk (show Kd.R k137 137 w w0.heap.size (fun k_ => (P0_28_ k_ ∨ w.heap.size ≤ k_)) u9000_ l0_28 from Kd.R_mono ho0_28 (fun k_ hk => (.inl hk)))
 have HK := Aside0.mk (Kept.refl w (fun k_ => P0_28_ k_))
 have HW0 := Aside0.mk hB.size
 have HB := Aside0.mk hB
 clear hB
 have H : ((laws_markPairS.f k l0_28 a1).bind fun bt584 => (some (bt584.1, bt584.2))) = some (r1, r2) := h
 clear h
 replace H := Option.bind_eq_some_iff.mp H
 obtain ⟨⟨t584, t585⟩, A30, H⟩ := H
 replace H : (some (t584, t585)) = some (r1, r2) := H
 have A3 := Aside0.mk A30
 clear A30
 simp only [Option.some.injEq, Prod.mk.injEq] at H
 obtain ⟨rfl, rfl⟩ := H
 obtain ⟨Ao4, co4, eo4⟩ := Kd.R_slice HO0_28.out
 subst eo4
 go_enter Tryd.func30, Tryd.ntmps30
 go_wp2_with (first | ((with_reducible refine gate_dst (N := 2) rfl ?_); refine box_event ?hg (N := 2) ?hd (cs := #[.int .i8 F0, .int .i8 F1, .int .i8 F2, .int .i8 F3, .int .i8 F4, .int .i8 F5, .int .i8 F6, .int .i8 F7, .int .i8 F8, .int .i8 F9, .int .i8 F10, .int .i8 F11, .int .i8 F12, .int .i8 F13, .int .i8 F14, .int .i8 F15, .int .i8 F16, .int .i8 F17, .int .i8 F18, .int .i8 F19, .int .i8 F20, .int .i8 F21, .int .i8 F22, .int .i8 F23, .int .i8 F24, .int .i8 F25, .int .i8 F26, .int .i8 F27, .slice Ao4 l0_28.length co4]) (t := 32) ?hr ?_; (case hd => rfl); (case hg => rfl); (case hr => first | (go_simp; done) | (go_simp; rfl)); intro gb583 hg w5 hbox hb; have n0_ := Aside0.mk (Kd.R_below (by (with_reducible repeat (first | apply Kd.R_alloc | apply Kd.R_drewN | apply Kd.R_drew)); exact HO0_28.out) hb); have n1_ := Aside0.mk (Kept.below (S := (fun k_ => P0_28_ k_)) (by repeat (first | (with_reducible first | exact HK.out | apply Kept.alloc | apply Kept.drewN | apply Kept.drew) | exact HK.out)) hb); have n2_ := Aside0.mk (below_step (by repeat (first | (with_reducible first | exact HB.out | apply bwA | apply pwN | apply bw1) | exact HB.out)) hb); have n3_ := Aside0.mk (hbox); have n4_ := Aside0.mk ((by rw [hg]; exact (by first | exact HK.out.1 | exact (show Kept w _ (fun k_ => P0_28_ k_) from by repeat (first | (with_reducible first | exact HK.out | apply Kept.alloc | apply Kept.drewN | apply Kept.drew) | exact HK.out)).1) : w.heap.size ≤ gb583)); have n5_ := Aside0.mk ((by rw [hg]; exact (below_size (by repeat (first | (with_reducible first | exact HB.out | apply bwA | apply pwN | apply bw1) | exact HB.out))) : w0.heap.size ≤ gb583)); clear HO0_28; clear HK; clear HB; have HO0_28 := n0_; have HK := n1_; have HB := n2_; have BK583 := n3_; have GW583 := n4_; have GE583 := n5_; clear n0_ n1_ n2_ n3_ n4_ n5_; clear hb hbox hg; have hcz6_26 : w5.cell? ⟨gb583, 26, none⟩ = some (.int .i8 F26) := (blk_cell BK583.out 26).trans rfl; have hcz6_27 : w5.cell? ⟨gb583, 27, none⟩ = some (.int .i8 F27) := (blk_cell BK583.out 27).trans rfl; have hcz6_28 : w5.cell? ⟨gb583, 28, none⟩ = some (.slice Ao4 l0_28.length co4) := (blk_cell BK583.out 28).trans rfl; have hfz6_26 := blk_frozen BK583.out 26; have hfz6_27 := blk_frozen BK583.out 27; have hfz6_28 := blk_frozen BK583.out 28) | ((with_reducible refine gate_callee (f := 81) rfl ?_); refine goesL_ (some 8) rfl rfl Tryd.func81 (by kernel_rfl) rfl #[.slice Ao4 l0_28.length co4, .int .i64 a1] rfl (by (try simp only [List.map_toArray, List.map_cons, List.map_nil]); first | done | rfl | (simp only [List.length_drop, List.length_take]; rfl)) ?_; (with_reducible refine (laws_markPairS.calls k (fun k_ => some k_ = (.slice Ao4 l0_28.length co4 : Value).ownBlock) (.slice Ao4 l0_28.length co4) l0_28 a1 t584 t585 w0 _ ?side1 ?side2 A3.out).mono ?_); (case side1 => repeat (first | (with_reducible first | exact HB.out | apply bwA | apply pwN | apply bw1 | refine below_set ?_ GE583.out) | exact HB.out)); (case side2 => exact Kd.R_tight rfl HO0_28.out); rintro e w7 ⟨rfl, hy0, hb, hkp⟩; refine ⟨_, rfl, ?_⟩; have n0_ := Aside0.mk (Kd.R_reok rfl hy0 (fun k_ e_ => HO0_28.out.1 k_ e_)); have n1_ := Aside0.mk (blk_kept (by (with_reducible repeat (first | refine blk_drewN ?_ _ | refine blk_drew ?_ | refine blk_alloc ?_ _)); exact BK583.out) hkp (fun hs_ => (fun e_ => (Kd.R_ne HO0_28.out BK583.out (by decide)) e_) hs_)); have n2_ := Aside0.mk (Kept.then_ (S := (fun k_ => P0_28_ k_)) (by repeat (first | (with_reducible first | exact HK.out | apply Kept.alloc | apply Kept.drewN | apply Kept.drew | refine Kept.setCell ?_ (.inr GW583.out) _) | exact HK.out)) hkp (fun k_ hs_ => (fun e_ => (HO0_28.out.1 k_ e_.symm)) hs_)); have n3_ := Aside0.mk (hb); clear HO0_28; clear BK583; clear HK; clear HB; have HO0_28 := n0_; have BK583 := n1_; have HK := n2_; have HB := n3_; clear n0_ n1_ n2_ n3_; (try clear hb); (try clear hkp); (try clear hy0)))
 go_ret
 exact ⟨by first | rfl | (simp [errW_none, errW_some] <;> rfl) | (simp [*, errW_none, errW_some] <;> rfl), by (with_reducible repeat (first | apply Kd.R_alloc | apply Kd.R_drewN | apply Kd.R_drew)); exact HO0_28.out, by repeat (first | (with_reducible first | exact HB.out | apply bwA | apply pwN | apply bw1 | refine below_set ?_ GE583.out) | exact HB.out), by repeat (first | (with_reducible first | exact HK.out | apply Kept.alloc | apply Kept.drewN | apply Kept.drew | refine Kept.setCell ?_ (.inr GW583.out) _) | exact HK.out)⟩
end Go.Proofs.YticjkfacdmmopaaDoor.Q
namespace Go.Proofs.YticjkfacdmmopaaDoor.Pure
open Go.RowKit Go.Proofs.YticjkfacdmmopaaDoor.Ext Go.Proofs.YticjkfacdmmopaaDoor.Q Go.Proofs.YticjkfacdmmopaaDoorW.PrintWords Go.Proofs.YticjkfacdmmopaaDoorW.PrintLast Go.Proofs.YticjkfacdmmopaaDoorW.PrintMore
set_option linter.unusedVariables false
set_option linter.unusedSimpArgs false
theorem w64 {x : Int} (h0 : -9223372036854775808 ≤ x) (h1 : x ≤ 9223372036854775807) : wrap64 x = x := by unfold wrap64; omega
theorem wrap_succ (n : Nat) (h : n ≤ 4611686018427387904) : wrap64 ((n : Int) + 1) = ((n + 1 : Nat) : Int) := by unfold wrap64; omega
theorem drop_cons (l : List Int) (n : Nat) (h : n < l.length) : l.drop n = rd l n :: l.drop (n + 1) := by
 rw [List.drop_eq_getElem_cons h]
 congr 1
 simp [rd, List.getD_eq_getElem?_getD, List.getElem?_eq_getElem h]
theorem rd_get (l : List Int) (n : Nat) (h : n < l.length) : rd l n = l[n] := by
 simp [rd, List.getD_eq_getElem?_getD, List.getElem?_eq_getElem h]
theorem some_k {k d : Nat} (h : d < k) : ∃ m, k = m + 1 := ⟨k - 1, by omega⟩
theorem take_set_succ (x : List Int) (n : Nat) (v : Int) (h : n < x.length) : (x.set n v).take (n + 1) = x.take n ++ [v] := by
 rw [List.take_succ_eq_append_getElem (by simpa using h), List.take_set, List.set_eq_of_length_le (by simp; omega)]
 simp
theorem eqInt64S_l0 (x y : List Int) (hy : x.length = y.length) (hl : x.length ≤ 4611686018427387904) : ∀ (d k n : Nat), n + d = x.length → d < k →
  laws_eqInt64S.l0 k x y n = some (decide (x.drop n = y.drop n))
 | 0, k, n, hd, hk => by
  obtain ⟨k, rfl⟩ := some_k hk
  simp only [laws_eqInt64S.l0]
  rw [if_neg (by omega), List.drop_eq_nil_of_le (by omega), List.drop_eq_nil_of_le (by omega)]
  rfl
 | d + 1, k, n, hd, hk => by
  obtain ⟨k, rfl⟩ := some_k hk
  simp only [laws_eqInt64S.l0]
  rw [if_pos (by omega), if_pos (by omega), if_pos (by omega), wrap_succ n (by omega), eqInt64S_l0 x y hy hl d k (n + 1) (by omega) (by omega), drop_cons x n (by omega), drop_cons y n (by omega)]
  by_cases h : rd x n = rd y n
  ·rw [if_pos h]; congr 1; rw [Bool.eq_iff_iff]; simp [h]
  ·rw [if_neg h]; congr 1; symm; simp [h]
theorem eqInt64S_eq {k : Nat} {x y : List Int} (hk : x.length < k) (hl : x.length ≤ 4611686018427387904) : laws_eqInt64S.f k x y = some (decide (x = y)) := by
 unfold laws_eqInt64S.f
 by_cases h : x.length = y.length
 ·rw [if_pos (by omega)]
  have := eqInt64S_l0 x y h hl x.length k 0 (by omega) hk
  simpa using this
 ·rw [if_neg (by omega)]
  congr 1; symm; simp
  intro e; exact h (by rw [e])
theorem eqInt64S_self {k : Nat} {x : List Int} (hk : x.length < k) (hl : x.length ≤ 4611686018427387904) : laws_eqInt64S.f k x x = some true := by
 rw [eqInt64S_eq hk hl]; simp
def marks (c : Int) : Nat → List Int
 | 0 => []
 | n + 1 => c :: marks (c + 1) n
theorem marks_len (c : Int) (n : Nat) : (marks c n).length = n := by
 induction n generalizing c with
 | zero => rfl
 | succ n ih => simp [marks, ih]
theorem marks_rd (c : Int) (n j : Nat) (h : j < n) : rd (marks c n) j = c + j := by
 induction n generalizing c j with
 | zero => omega
 | succ n ih =>
  cases j with
  | zero => simp [marks, rd]
  | succ j =>
   have := ih (c + 1) j (by omega)
   simp [marks, rd] at this ⊢
   rw [this]; omega
theorem marks_snoc (c : Int) (n : Nat) : marks c (n + 1) = marks c n ++ [c + n] := by
 induction n generalizing c with
 | zero => simp [marks]
 | succ n ih => rw [marks, ih (c + 1)]; simp [marks]; omega
theorem markInt64S_l0 (c : Int) (h0 : 0 ≤ c) (hc : c ≤ 4611686018427387904) : ∀ (d k n : Nat) (x : List Int), n + d = x.length → x.length ≤ 2305843009213693952 → d < k → x.take n = marks c n →
  laws_markInt64S.l0 k x (c + n) n = some (c + x.length, marks c x.length)
 | 0, k, n, x, hd, hx, hk, ht => by
  obtain ⟨k, rfl⟩ := some_k hk
  simp only [laws_markInt64S.l0]
  rw [if_neg (by omega)]
  obtain rfl : n = x.length := by omega
  rw [List.take_length] at ht
  rw [← ht]
 | d + 1, k, n, x, hd, hx, hk, ht => by
  obtain ⟨k, rfl⟩ := some_k hk
  simp only [laws_markInt64S.l0]
  rw [if_pos (by omega), if_pos (by omega), wrap_succ n (by omega), w64 (by omega) (by omega)]
  have := markInt64S_l0 c h0 hc d k (n + 1) (x.set (n : Int).toNat (c + n)) (by simp; omega) (by simpa using hx) (by omega) (by
   rw [Int.toNat_natCast, take_set_succ x n _ (by omega), marks_snoc, ht])
  rw [show c + (n : Int) + 1 = c + ((n + 1 : Nat) : Int) by omega, this]
  simp
theorem markInt64S_eq {k : Nat} {x : List Int} {c : Int} (hk : x.length < k) (hx : x.length ≤ 2305843009213693952) (h0 : 0 ≤ c) (hc : c ≤ 4611686018427387904) : laws_markInt64S.f k x c = some (c + x.length, marks c x.length) := by
 unfold laws_markInt64S.f
 have := markInt64S_l0 c h0 hc x.length k 0 x (by omega) hx hk (by simp [marks])
 simpa using this
theorem heldInt64S_l0 (c : Int) (m : Nat) (h0 : 0 ≤ c) (hc : c ≤ 4611686018427387904) (hm : m ≤ 2305843009213693952) : ∀ (d k n : Nat), n + d = m → d < k →
  laws_heldInt64S.l0 k (marks c m) (c + n) n = some (c + m)
 | 0, k, n, hd, hk => by
  obtain ⟨k, rfl⟩ := some_k hk
  simp only [laws_heldInt64S.l0]
  rw [if_neg (by rw [marks_len]; omega)]
  obtain rfl : n = m := by omega
  rfl
 | d + 1, k, n, hd, hk => by
  obtain ⟨k, rfl⟩ := some_k hk
  simp only [laws_heldInt64S.l0]
  rw [if_pos (by rw [marks_len]; omega), if_pos (by omega), marks_rd c m n (by omega), if_pos rfl, wrap_succ n (by omega), w64 (by omega) (by omega)]
  rw [show c + (n : Int) + 1 = c + ((n + 1 : Nat) : Int) by omega]
  exact heldInt64S_l0 c m h0 hc hm d k (n + 1) (by omega) (by omega)
theorem heldInt64S_eq {k m : Nat} {c : Int} (hk : m < k) (hm : m ≤ 2305843009213693952) (h0 : 0 ≤ c) (hc : c ≤ 4611686018427387904) : laws_heldInt64S.f k (marks c m) c = some (c + m) := by
 unfold laws_heldInt64S.f
 have := heldInt64S_l0 c m h0 hc hm m k 0 (by omega) hk
 simpa using this
theorem in_eq (a b c : Int) : spec_l00In.f a b c = some (inB a b c) := by
 unfold spec_l00In.f inB
 by_cases h : b ≤ a
 ·rw [if_pos h]; simp [h]
 ·rw [if_neg h]; simp [h]
theorem within_eq (a b c : Int) : impl_within.f a b c = some (inB a b c) := by
 unfold impl_within.f inB
 by_cases h : b ≤ a
 ·rw [if_pos h]; simp [h]
 ·rw [if_neg h]; simp [h]
end Go.Proofs.YticjkfacdmmopaaDoor.Pure
namespace Go.Proofs.YticjkfacdmmopaaDoor.Ext
end Go.Proofs.YticjkfacdmmopaaDoor.Ext
namespace Go.Proofs.YticjkfacdmmopaaDoor.Q
open Go.Proofs.YticjkfacdmmopaaDoor.Ext
open Go.RowKit Go.Proofs.YticjkfacdmmopaaDoorW.PrintWords Go.Proofs.YticjkfacdmmopaaDoorW.PrintLast Go.Proofs.YticjkfacdmmopaaDoorW.PrintMore
attribute [local go_sem] max2_int min2_int max_two min_two max_three min_three max_four min_four
set_option linter.unusedVariables false
set_option linter.unusedSimpArgs false
end Go.Proofs.YticjkfacdmmopaaDoor.Q
namespace Go.Proofs.YticjkfacdmmopaaDoor.Pure
open Go.RowKit Go.Proofs.YticjkfacdmmopaaDoor.Ext Go.Proofs.YticjkfacdmmopaaDoor.Q Go.Proofs.YticjkfacdmmopaaDoor.Txt Go.Proofs.YticjkfacdmmopaaDoorW.PrintWords Go.Proofs.YticjkfacdmmopaaDoorW.PrintLast Go.Proofs.YticjkfacdmmopaaDoorW.PrintMore
set_option linter.unusedVariables false
set_option linter.unusedSimpArgs false
theorem toList_loop (s : ByteArray) : ∀ (d i : Nat) (r : List UInt8), i + d = s.size → ByteArray.toList.loop s i r = r.reverse ++ s.data.toList.drop i
 | 0, i, r, h => by
  rw [ByteArray.toList.loop, if_neg (by omega), List.drop_eq_nil_of_le (by rw [data_length]; omega), List.append_nil]
 | d + 1, i, r, h => by
  rw [ByteArray.toList.loop, if_pos (by omega), toList_loop s d (i + 1) _ (by omega)]
  have hi : i < s.data.toList.length := by rw [data_length]; omega
  have hi' : i < s.data.size := by simpa using hi
  have e : s.get! i = s.data.toList[i] := by
   show s.data[i]! = _
   rw [getElem!_pos s.data i hi', Array.getElem_toList]
  rw [List.reverse_cons, List.append_assoc, List.drop_eq_getElem_cons hi, e]
  rfl
theorem toList_data (s : ByteArray) : s.toList = s.data.toList := by
 have := toList_loop s s.size 0 [] (by omega)
 simpa [ByteArray.toList] using this
theorem bt_get (s : ByteArray) (i : Nat) (h : i < s.data.toList.length) : bt s (i : Int) = ((s.data.toList.getD i 0).toNat : Int) := by
 have h' : i < s.size := by rw [← data_length]; exact h
 unfold bt
 rw [Int.toNat_natCast, dif_pos h']
 congr 2
 have := Lib.data_getElem? s i h'
 rw [List.getD_eq_getElem?_getD, this]
 rfl
theorem u8_eq (b : UInt8) (n : Nat) (hn : n < 256) : ((b.toNat : Int) = n) ↔ b = UInt8.ofNat n := by
 constructor
 ·intro h
  apply UInt8.toNat_inj.1
  rw [UInt8.toNat_ofNat']; omega
 ·rintro rfl
  rw [UInt8.toNat_ofNat']; omega
theorem is32 (b : UInt8) : ((b.toNat : Int) = 32) ↔ b = 32 := u8_eq b 32 (by omega)
def okAt (l : List UInt8) (i : Nat) : Bool :=
 if l.getD i 0 = 32 then !(i == 0 || (i + 1 == l.length || l.getD (i - 1) 0 == 32)) else decide (65 ≤ (l.getD i 0).toNat) && decide ((l.getD i 0).toNat ≤ 90)
theorem range_succ (i d : Nat) : List.range' i (d + 1) = i :: List.range' (i + 1) d := by rw [List.range'_succ]
theorem letter_eq (s : ByteArray) (i : Nat) (h : i < s.data.toList.length) : spec_l01Letter.f (bt s i) = some (decide (65 ≤ (s.data.toList.getD i 0).toNat) && decide ((s.data.toList.getD i 0).toNat ≤ 90)) := by
 unfold spec_l01Letter.f
 rw [bt_get s i h]
 by_cases h1 : 65 ≤ (s.data.toList.getD i 0).toNat
 ·rw [if_pos (by omega)]; simp only [h1, decide_true, Bool.true_and]; congr 1; rw [Bool.eq_iff_iff]; simp; omega
 ·rw [if_neg (by omega)]; simp only [h1, decide_false, Bool.false_and]
theorem isLetter_eq (s : ByteArray) (i : Nat) (h : i < s.data.toList.length) : impl_isLetter.f (bt s i) = some (decide (65 ≤ (s.data.toList.getD i 0).toNat) && decide ((s.data.toList.getD i 0).toNat ≤ 90)) := by
 unfold impl_isLetter.f
 rw [bt_get s i h]
 by_cases h1 : 65 ≤ (s.data.toList.getD i 0).toNat
 ·rw [if_pos (by omega)]; simp only [h1, decide_true, Bool.true_and]; congr 1; rw [Bool.eq_iff_iff]; simp; omega
 ·rw [if_neg (by omega)]; simp only [h1, decide_false, Bool.false_and]
theorem text_l0 (s : ByteArray) (hs : s.size ≤ 4611686018427387904) : ∀ (d k i : Nat), i + d = s.size → d < k →
  spec_l01Text.l0 k s i = some ((List.range' i d).all (okAt s.data.toList) && decide (s.size ≤ 60))
 | 0, k, i, hd, hk => by
  obtain ⟨k, rfl⟩ := some_k hk
  simp only [spec_l01Text.l0]
  rw [if_neg (by omega)]
  simp only [List.range'_zero, List.all_nil, Bool.true_and]
  congr 1
  rw [Bool.eq_iff_iff]; simp; omega
 | d + 1, k, i, hd, hk => by
  obtain ⟨k, rfl⟩ := some_k hk
  have hlen : s.data.toList.length = s.size := data_length s
  have ih := text_l0 s hs d k (i + 1) (by omega) (by omega)
  simp only [spec_l01Text.l0]
  rw [if_pos (by omega), if_pos (by omega), wrap_succ i (by omega), ih, letter_eq s i (by omega), bt_get s i (by omega)]
  rw [range_succ, List.all_cons]
  by_cases h1 : s.data.toList.getD i 0 = 32
  ·rw [if_pos ((is32 _).2 h1)]
   by_cases h2 : i = 0
   ·rw [if_pos (by omega)]
    subst h2
    have e : okAt s.data.toList 0 = false := by unfold okAt; rw [if_pos h1]; simp
    rw [e]; simp
   ·rw [if_neg (by omega), w64 (x := (s.size : Int) - 1) (by omega) (by omega)]
    by_cases h3 : i + 1 = s.size
    ·rw [if_pos (by omega)]
     have h3' : i + 1 = s.data.toList.length := by omega
     have e : okAt s.data.toList i = false := by
      unfold okAt
      rw [if_pos h1, show (i + 1 == s.data.toList.length) = true from by rw [beq_iff_eq]; exact h3']
      simp
     rw [e]; simp
    ·rw [if_neg (by omega), w64 (x := (i : Int) - 1) (by omega) (by omega), if_pos (by omega), if_pos (by omega)]
     rw [show (i : Int) - 1 = ((i - 1 : Nat) : Int) by omega, bt_get s (i - 1) (by omega)]
     by_cases h4 : s.data.toList.getD (i - 1) 0 = 32
     ·rw [if_pos ((is32 _).2 h4)]
      have e : okAt s.data.toList i = false := by unfold okAt; rw [if_pos h1, h4]; simp
      rw [e]; simp
     ·rw [if_neg (fun h => h4 ((is32 _).1 h))]
      have e : okAt s.data.toList i = true := by
       unfold okAt
       rw [if_pos h1]
       have h4' : (s.data.toList.getD (i - 1) 0 == 32) = false := by rw [beq_eq_false_iff_ne]; exact h4
       have h3' : (i + 1 == s.data.toList.length) = false := by rw [beq_eq_false_iff_ne]; omega
       have h2' : (i == 0) = false := by rw [beq_eq_false_iff_ne]; omega
       rw [h4', h3', h2']; rfl
      rw [e]; simp
  ·rw [if_neg (fun h => h1 ((is32 _).1 h))]
   have e : okAt s.data.toList i = (decide (65 ≤ (s.data.toList.getD i 0).toNat) && decide ((s.data.toList.getD i 0).toNat ≤ 90)) := by unfold okAt; rw [if_neg h1]
   rw [e, Option.bind_some]
   cases (decide (65 ≤ (s.data.toList.getD i 0).toNat) && decide ((s.data.toList.getD i 0).toNat ≤ 90)) <;> simp
theorem spaced_l0 (s : ByteArray) (hs : s.size ≤ 4294967280) : ∀ (d k i : Nat), i + d = s.size → d < k →
  impl_isSpaced.l0 k s (s.size : Int) i = some ((List.range' i d).all (fun j => okB (s.data.toList.getD j 0)) && !(Lib.contains s.data.toList [32, 32]))
 | 0, k, i, hd, hk => by
  obtain ⟨k, rfl⟩ := some_k hk
  simp only [impl_isSpaced.l0]
  rw [if_neg (by omega)]
  unfold strings_Contains.f
  rw [if_pos (by omega)]
  simp
 | d + 1, k, i, hd, hk => by
  obtain ⟨k, rfl⟩ := some_k hk
  have hlen : s.data.toList.length = s.size := data_length s
  have ih := spaced_l0 s hs d k (i + 1) (by omega) (by omega)
  simp only [impl_isSpaced.l0]
  rw [if_pos (by omega), if_pos (by omega), if_pos (by omega), wrap_succ i (by omega), ih, isLetter_eq s i (by omega), bt_get s i (by omega), Option.bind_some, range_succ, List.all_cons]
  have e : okB (s.data.toList.getD i 0) = ((decide (65 ≤ (s.data.toList.getD i 0).toNat) && decide ((s.data.toList.getD i 0).toNat ≤ 90)) || s.data.toList.getD i 0 == 32) := rfl
  rw [e]
  cases hc : (decide (65 ≤ (s.data.toList.getD i 0).toNat) && decide ((s.data.toList.getD i 0).toNat ≤ 90))
  ·simp only [Bool.false_eq_true, if_false, Bool.false_or]
   by_cases h1 : s.data.toList.getD i 0 = 32
   ·rw [if_pos ((is32 _).2 h1), h1]; simp
   ·rw [if_neg (fun h => h1 ((is32 _).1 h))]
    have : (s.data.toList.getD i 0 == 32) = false := by rw [beq_eq_false_iff_ne]; exact h1
    rw [this]; simp
  ·simp
theorem range_all (l : List UInt8) (p : UInt8 → Bool) : (List.range' 0 l.length).all (fun j => p (l.getD j 0)) = l.all p := by
 rw [Bool.eq_iff_iff, List.all_eq_true, List.all_eq_true]
 constructor
 ·intro h x hx
  obtain ⟨i, hi, rfl⟩ := List.mem_iff_getElem.1 hx
  have := h i (by simp [List.mem_range']; omega)
  simpa [List.getD_eq_getElem?_getD, hi] using this
 ·intro h i hi
  have hi' : i < l.length := by simpa [List.mem_range'] using hi
  have := h _ (List.getElem_mem hi')
  simpa [List.getD_eq_getElem?_getD, hi'] using this
theorem noTwo_iff : ∀ l : List UInt8, noTwo l = true ↔ ∀ i, i + 1 < l.length → ¬ (l.getD i 0 = 32 ∧ l.getD (i + 1) 0 = 32)
 | [] => by simp [noTwo]
 | [a] => by simp [noTwo]
 | a :: b :: l => by
  have ih := noTwo_iff (b :: l)
  simp only [noTwo, Bool.and_eq_true, Bool.not_eq_true', Bool.and_eq_false_iff, beq_eq_false_iff_ne]
  rw [ih]
  constructor
  ·rintro ⟨h1, h2⟩ i hi
   cases i with
   | zero => simp; intro ha; rcases h1 with h | h; exact absurd ha h; exact h
   | succ i =>
    have := h2 i (by simp at hi ⊢; omega)
    simpa using this
  ·intro h
   refine ⟨?_, fun i hi => ?_⟩
   ·have := h 0 (by simp)
    simp at this
    by_cases ha : a = 32
    ·exact .inr (this ha)
    ·exact .inl ha
   ·have := h (i + 1) (by simp at hi ⊢; omega)
    simpa using this
theorem head_iff (l : List UInt8) : (l.head? != some 32) = true ↔ ¬ (0 < l.length ∧ l.getD 0 0 = 32) := by
 cases l with
 | nil => simp
 | cons a t => simp
theorem last_iff (l : List UInt8) : (l.getLast? != some 32) = true ↔ ¬ (0 < l.length ∧ l.getD (l.length - 1) 0 = 32) := by
 rw [List.getLast?_eq_getElem?]
 by_cases h : 0 < l.length
 ·have hi : l.length - 1 < l.length := by omega
  rw [List.getD_eq_getElem?_getD, List.getElem?_eq_getElem hi]
  simp [h]
 ·have : l = [] := List.length_eq_zero_iff.1 (by omega)
  subst this; simp
theorem okAt_iff (l : List UInt8) : (List.range' 0 l.length).all (okAt l) = ((l.all okB && noTwo l) && (l.head? != some 32 && l.getLast? != some 32)) := by
 rw [Bool.eq_iff_iff]
 simp only [Bool.and_eq_true]
 rw [noTwo_iff, head_iff, last_iff, ← range_all l okB]
 simp only [List.all_eq_true, List.mem_range', Nat.zero_add, Nat.one_mul]
 have hok : ∀ i, okB (l.getD i 0) = true ↔ (l.getD i 0 = 32 ∨ (65 ≤ (l.getD i 0).toNat ∧ (l.getD i 0).toNat ≤ 90)) := by
  intro i
  simp only [okB, Bool.or_eq_true, Bool.and_eq_true, decide_eq_true_eq, beq_iff_eq]
  constructor
  ·rintro (h | h)
   ·exact .inr h
   ·exact .inl h
  ·rintro (h | h)
   ·exact .inr h
   ·exact .inl h
 have hat : ∀ i, okAt l i = true ↔ ((l.getD i 0 = 32 ∧ i ≠ 0 ∧ i + 1 ≠ l.length ∧ l.getD (i - 1) 0 ≠ 32) ∨ (l.getD i 0 ≠ 32 ∧ 65 ≤ (l.getD i 0).toNat ∧ (l.getD i 0).toNat ≤ 90)) := by
  intro i
  unfold okAt
  by_cases h : l.getD i 0 = 32
  ·rw [if_pos h]
   simp only [Bool.not_eq_true', Bool.or_eq_false_iff, beq_eq_false_iff_ne, h, true_and, ne_eq, not_true_eq_false, false_and, or_false]
  ·rw [if_neg h]
   simp only [Bool.and_eq_true, decide_eq_true_eq, h, false_and, false_or, ne_eq, not_false_eq_true, true_and]
 constructor
 ·intro h
  have h' : ∀ i, i < l.length → okAt l i = true := fun i hi => h i ⟨i, hi, rfl⟩
  refine ⟨⟨?_, ?_⟩, ?_, ?_⟩
  ·rintro i ⟨_, hj, rfl⟩
   rw [hok]
   rcases (hat i).1 (h' i hj) with h1 | h1
   ·exact .inl h1.1
   ·exact .inr h1.2
  ·rintro i hi ⟨h1, h2⟩
   rcases (hat (i + 1)).1 (h' (i + 1) hi) with h3 | h3
   ·exact h3.2.2.2 h1
   ·exact h3.1 h2
  ·rintro ⟨h1, h2⟩
   rcases (hat 0).1 (h' 0 h1) with h3 | h3
   ·exact h3.2.1 rfl
   ·exact h3.1 h2
  ·rintro ⟨h1, h2⟩
   rcases (hat (l.length - 1)).1 (h' _ (by omega)) with h3 | h3
   ·exact h3.2.2.1 (by omega)
   ·exact h3.1 h2
 ·rintro ⟨⟨h1, h2⟩, h3, h4⟩ i ⟨_, hj, rfl⟩
  rw [hat]
  rcases (hok i).1 (h1 i ⟨i, hj, rfl⟩) with h5 | h5
  ·left
   refine ⟨h5, ?_, ?_, ?_⟩
   ·rintro rfl; exact h3 ⟨hj, h5⟩
   ·intro he
    refine h4 ⟨by omega, ?_⟩
    rw [show l.length - 1 = i by omega]; exact h5
   ·intro he
    cases i with
    | zero => exact h3 ⟨hj, h5⟩
    | succ j => exact h2 j hj ⟨he, h5⟩
  ·right
   refine ⟨?_, h5⟩
   intro he
   rw [he] at h5
   have : (32 : UInt8).toNat = 32 := rfl
   omega
theorem text_eq (s : ByteArray) (hs : s.size ≤ 4611686018427387904) {k : Nat} (hk : s.size < k) : spec_l01Text.f k s = some (txt s.data.toList) := by
 unfold spec_l01Text.f
 have := text_l0 s hs s.size k 0 (by omega) hk
 rw [show ((0 : Nat) : Int) = 0 from rfl] at this
 rw [this]
 have hlen : s.data.toList.length = s.size := data_length s
 have h2 := okAt_iff s.data.toList
 rw [hlen] at h2
 rw [h2]
 unfold txt
 rw [hlen, Bool.and_comm, ← Bool.and_assoc]
theorem valid_eq (s : ByteArray) {k : Nat} (hk : s.size < k ∨ 60 < k) : impl_ValidText.f k s = some (txt s.data.toList) := by
 have hlen : s.data.toList.length = s.size := data_length s
 unfold impl_ValidText.f
 by_cases h : s.size ≤ 60
 ·rw [if_pos (by omega)]
  unfold impl_isSpaced.f
  have := spaced_l0 s (by omega) s.size k 0 (by omega) (by omega)
  rw [show ((0 : Nat) : Int) = 0 from rfl] at this
  rw [this, Option.bind_some]
  have h2 := range_all s.data.toList okB
  rw [hlen] at h2
  rw [h2, contains_two, Bool.not_not]
  unfold txt strings_Trim.f
  rw [hlen, if_pos (show _ ∧ _ from ⟨rfl, by omega⟩), Option.bind_some, toList_data, toList_data]
  have ht := trim_eq_iff s.data.toList
  have hd : decide (s.size ≤ 60) = true := by simpa using h
  rw [hd, Bool.true_and]
  cases (s.data.toList.all okB && noTwo s.data.toList)
  ·simp
  ·simp only [if_true, Bool.true_and]
   congr 1
   rw [Bool.eq_iff_iff, beq_iff_eq]
   show Lib.trimB s.data.toList 32 = s.data.toList ↔ _
   rw [ht]
   simp
 ·rw [if_neg (by omega)]
  unfold txt
  rw [hlen]
  simp [h]
open Go.RowKit Go.Proofs.YticjkfacdmmopaaDoor.Ext Go.Proofs.YticjkfacdmmopaaDoor.Q Go.Proofs.YticjkfacdmmopaaDoor.Txt Go.Proofs.YticjkfacdmmopaaDoor.Face Go.Proofs.YticjkfacdmmopaaDoorW.PrintWords Go.Proofs.YticjkfacdmmopaaDoorW.PrintLast Go.Proofs.YticjkfacdmmopaaDoorW.PrintMore
set_option maxRecDepth 100000
theorem take26 (L : List Int) (i : Int) (h0 : 0 ≤ i) (h1 : i < 26) : rd [rd L 0, rd L 1, rd L 2, rd L 3, rd L 4, rd L 5, rd L 6, rd L 7, rd L 8, rd L 9, rd L 10, rd L 11, rd L 12, rd L 13, rd L 14, rd L 15, rd L 16, rd L 17, rd L 18, rd L 19, rd L 20, rd L 21, rd L 22, rd L 23, rd L 24, rd L 25] i = rd L i := by
 have e : [rd L 0, rd L 1, rd L 2, rd L 3, rd L 4, rd L 5, rd L 6, rd L 7, rd L 8, rd L 9, rd L 10, rd L 11, rd L 12, rd L 13, rd L 14, rd L 15, rd L 16, rd L 17, rd L 18, rd L 19, rd L 20, rd L 21, rd L 22, rd L 23, rd L 24, rd L 25] = (List.range 26).map fun n : Nat => rd L (n : Int) := rfl
 rw [e]
 unfold rd
 rw [List.getD_eq_getElem?_getD, List.getElem?_map, List.getElem?_range (by omega)]
 simp
theorem rdP_get (P : List Pr) (n : Nat) (h : n < P.length) : rd_T137 P n = P[n] := by
 simp [rd_T137, List.getD_eq_getElem?_getD, List.getElem?_eq_getElem h]
theorem byP_drop (P : List Pr) (n : Nat) (h : n < P.length) (a b : Int) : byP a b (P.drop n) = if (rd_T137 P n).f0 = a ∧ (rd_T137 P n).f1 = b then (rd_T137 P n).f2 else byP a b (P.drop (n + 1)) := by
 rw [List.drop_eq_getElem_cons h, byP, rdP_get P n h]
theorem by_l0 (P : List Pr) (hP : ∀ p ∈ P, -128 ≤ p.f2 ∧ p.f2 ≤ 127) (hl : P.length ≤ 4611686018427387904) (a b : Int) : ∀ (d k n : Nat), n + d = P.length → d < k →
  impl_Face_by.l0 k a b P (P.length : Int) n = some (byP a b (P.drop n))
 | 0, k, n, hd, hk => by
  obtain ⟨k, rfl⟩ := some_k hk
  simp only [impl_Face_by.l0]
  rw [if_neg (by omega), List.drop_eq_nil_of_le (by omega)]
  rfl
 | d + 1, k, n, hd, hk => by
  obtain ⟨k, rfl⟩ := some_k hk
  have hm := hP (rd_T137 P n) (by rw [rdP_get P n (by omega)]; exact List.getElem_mem _)
  simp only [impl_Face_by.l0]
  rw [if_pos (by omega), if_pos (by omega), if_pos (by omega), wrap_succ n (by omega), by_l0 P hP hl a b d k (n + 1) (by omega) (by omega), byP_drop P n (by omega), w64 (x := (rd_T137 P n).f2) (by omega) (by omega)]
  by_cases h1 : (rd_T137 P n).f0 = a
  ·by_cases h2 : (rd_T137 P n).f1 = b
   ·rw [if_pos h1, if_pos h2, if_pos ⟨h1, h2⟩]
   ·rw [if_pos h1, if_neg h2, if_neg (fun h => h2 h.2)]
  ·rw [if_neg h1, if_neg (fun h => h1 h.1)]
theorem sby_l0 (L : List Int) (P : List Pr) (hP : ∀ p ∈ P, -128 ≤ p.f2 ∧ p.f2 ≤ 127) (hl : P.length ≤ 4611686018427387904) (a b : Int) : ∀ (d k n : Nat), n + d = P.length → d < k →
  spec_l01By.l0 k a b n (rd L 0) (rd L 1) (rd L 2) (rd L 3) (rd L 4) (rd L 5) (rd L 6) (rd L 7) (rd L 8) (rd L 9) (rd L 10) (rd L 11) (rd L 12) (rd L 13) (rd L 14) (rd L 15) (rd L 16) (rd L 17) (rd L 18) (rd L 19) (rd L 20) (rd L 21) (rd L 22) (rd L 23) (rd L 24) (rd L 25) (rd L 26) (rd L 27) P = some (byP a b (P.drop n))
 | 0, k, n, hd, hk => by
  obtain ⟨k, rfl⟩ := some_k hk
  simp only [spec_l01By.l0]
  rw [if_neg (by omega), List.drop_eq_nil_of_le (by omega)]
  rfl
 | d + 1, k, n, hd, hk => by
  obtain ⟨k, rfl⟩ := some_k hk
  have hm := hP (rd_T137 P n) (by rw [rdP_get P n (by omega)]; exact List.getElem_mem _)
  simp only [spec_l01By.l0]
  rw [if_pos (by omega), if_pos (by omega), wrap_succ n (by omega), sby_l0 L P hP hl a b d k (n + 1) (by omega) (by omega), byP_drop P n (by omega), w64 (x := (rd_T137 P n).f2) (by omega) (by omega)]
  by_cases h1 : (rd_T137 P n).f0 = a
  ·by_cases h2 : (rd_T137 P n).f1 = b
   ·rw [if_pos h1, if_pos h2, if_pos ⟨h1, h2⟩]
   ·rw [if_pos h1, if_neg h2, if_neg (fun h => h2 h.2)]
  ·rw [if_neg h1, if_neg (fun h => h1 h.1)]
structure FaceOk (L : List Int) (P : List Pr) : Prop where
 len : L.length = 28
 few : P.length ≤ 12
 rng : ∀ p ∈ P, -128 ≤ p.f2 ∧ p.f2 ≤ 127
 shape : shapeB L P = true
theorem faceOk {L : List Int} {P : List Pr} (hl : L.length = 28) (hr : rngB L P = true) (hf : faceB L P = true) : FaceOk L P := by
 unfold faceB at hf
 simp only [Bool.and_eq_true, decide_eq_true_eq] at hf
 exact ⟨hl, hf.1, fun p hp => (rngP hr p hp).2.2, hf.2⟩
theorem by_eq {L : List Int} {P : List Pr} (F : FaceOk L P) (a b : Int) {k : Nat} (hk : 12 < k) : impl_Face_by.f k (rd L 0) (rd L 1) (rd L 2) (rd L 3) (rd L 4) (rd L 5) (rd L 6) (rd L 7) (rd L 8) (rd L 9) (rd L 10) (rd L 11) (rd L 12) (rd L 13) (rd L 14) (rd L 15) (rd L 16) (rd L 17) (rd L 18) (rd L 19) (rd L 20) (rd L 21) (rd L 22) (rd L 23) (rd L 24) (rd L 25) (rd L 26) (rd L 27) P a b = some (byP a b P) := by
 have := F.few
 unfold impl_Face_by.f
 have h := by_l0 P F.rng (by omega) a b P.length k 0 (by omega) (by omega)
 rwa [show ((0 : Nat) : Int) = 0 from rfl, List.drop_zero] at h
theorem sby_eq {L : List Int} {P : List Pr} (F : FaceOk L P) (a b : Int) {k : Nat} (hk : 12 < k) : spec_l01By.f k (rd L 0) (rd L 1) (rd L 2) (rd L 3) (rd L 4) (rd L 5) (rd L 6) (rd L 7) (rd L 8) (rd L 9) (rd L 10) (rd L 11) (rd L 12) (rd L 13) (rd L 14) (rd L 15) (rd L 16) (rd L 17) (rd L 18) (rd L 19) (rd L 20) (rd L 21) (rd L 22) (rd L 23) (rd L 24) (rd L 25) (rd L 26) (rd L 27) P a b = some (byP a b P) := by
 have := F.few
 unfold spec_l01By.f
 have h := sby_l0 L P F.rng (by omega) a b P.length k 0 (by omega) (by omega)
 rwa [show ((0 : Nat) : Int) = 0 from rfl, List.drop_zero] at h
theorem letter_at {L : List Int} {P : List Pr} (F : FaceOk L P) (c : UInt8) (h0 : 65 ≤ c.toNat) (h1 : c.toNat ≤ 90) : wrap64 (rd [rd L 0, rd L 1, rd L 2, rd L 3, rd L 4, rd L 5, rd L 6, rd L 7, rd L 8, rd L 9, rd L 10, rd L 11, rd L 12, rd L 13, rd L 14, rd L 15, rd L 16, rd L 17, rd L 18, rd L 19, rd L 20, rd L 21, rd L 22, rd L 23, rd L 24, rd L 25] (((c.toNat : Int) - 65) % 256)) = wB L c := by
 have e : ((c.toNat : Int) - 65) % 256 = (c.toNat : Int) - 65 := by omega
 have := wB_in F.len F.shape c h0 h1
 rw [e, take26 L _ (by omega) (by omega)]
 exact w64 (by unfold wB at this; omega) (by unfold wB at this; omega)
theorem fletter_eq {L : List Int} {P : List Pr} (F : FaceOk L P) (c : UInt8) (h0 : 65 ≤ c.toNat) (h1 : c.toNat ≤ 90) : impl_Face_letter.f (rd L 0) (rd L 1) (rd L 2) (rd L 3) (rd L 4) (rd L 5) (rd L 6) (rd L 7) (rd L 8) (rd L 9) (rd L 10) (rd L 11) (rd L 12) (rd L 13) (rd L 14) (rd L 15) (rd L 16) (rd L 17) (rd L 18) (rd L 19) (rd L 20) (rd L 21) (rd L 22) (rd L 23) (rd L 24) (rd L 25) (rd L 26) (rd L 27) P (c.toNat : Int) = some (wB L c) := by
 unfold impl_Face_letter.f
 rw [if_pos (by omega), if_pos (by omega), letter_at F c h0 h1]
def prev (t : List UInt8) (i : Nat) : UInt8 := if i = 0 then 32 else t.getD (i - 1) 0
theorem prev_zero (t : List UInt8) : prev t 0 = 32 := rfl
theorem prev_succ (t : List UInt8) (i : Nat) : prev t (i + 1) = t.getD i 0 := rfl
theorem getD_mem {t : List UInt8} {i : Nat} (h : i < t.length) : t.getD i 0 ∈ t := by
 rw [List.getD_eq_getElem?_getD, List.getElem?_eq_getElem h]
 exact List.getElem_mem h
theorem drop_foldl (L : List Int) (P : List Pr) (t : List UInt8) (i : Nat) (h : i < t.length) (s : St) : (t.drop i).foldl (Face.step L P) s = (t.drop (i + 1)).foldl (Face.step L P) (Face.step L P s (t.getD i 0)) := by
 rw [List.drop_eq_getElem_cons h, List.foldl_cons, List.getD_eq_getElem?_getD, List.getElem?_eq_getElem h]
 rfl
theorem step_blank (L : List Int) (P : List Pr) (xs : List Int) (w : Int) (p : UInt8) : Face.step L P (xs, w, p) 32 = (xs, w + rd L 26, 32) := by
 unfold Face.step; rw [if_pos rfl]
theorem step_letter (L : List Int) (P : List Pr) (xs : List Int) (w : Int) (p c : UInt8) (h : c ≠ 32) : Face.step L P (xs, w, p) c = (xs ++ [w + gapB L P p c], w + gapB L P p c + wB L c, c) := by
 unfold Face.step; rw [if_neg h]
theorem gapB_blank (L : List Int) (P : List Pr) (c : UInt8) : gapB L P 32 c = 0 := by unfold gapB; rw [if_pos rfl]
theorem gapB_letter (L : List Int) (P : List Pr) (p c : UInt8) (h : p ≠ 32) : gapB L P p c = rd L 27 + byP p.toNat c.toNat P := by unfold gapB; rw [if_neg h]
theorem fplaces_l0 {L : List Int} {P : List Pr} (F : FaceOk L P) (s : ByteArray) (hs : s.size ≤ 60) (ht : okTxt s.data.toList) : ∀ (d k i : Nat) (xs : List Int) (w : Int), i + d = s.size → 2 * d + 14 < k → xs.length ≤ i → -60 * (i : Int) ≤ w ∧ w ≤ 60 * i →
  impl_Face_places.l0 k s xs w s.size i (rd L 0) (rd L 1) (rd L 2) (rd L 3) (rd L 4) (rd L 5) (rd L 6) (rd L 7) (rd L 8) (rd L 9) (rd L 10) (rd L 11) (rd L 12) (rd L 13) (rd L 14) (rd L 15) (rd L 16) (rd L 17) (rd L 18) (rd L 19) (rd L 20) (rd L 21) (rd L 22) (rd L 23) (rd L 24) (rd L 25) (rd L 26) (rd L 27) P = some (((s.data.toList.drop i).foldl (Face.step L P) (xs, w, prev s.data.toList i)).1, ((s.data.toList.drop i).foldl (Face.step L P) (xs, w, prev s.data.toList i)).2.1)
 | 0, k, i, xs, w, hd, hk, hx, hw => by
  obtain ⟨k, rfl⟩ := some_k hk
  simp only [impl_Face_places.l0]
  rw [if_neg (by omega), List.drop_eq_nil_of_le (by rw [data_length]; omega)]
  rfl
 | d + 1, k, i, xs, w, hd, hk, hx, hw => by
  obtain ⟨k, rfl⟩ := some_k hk
  have hlen : s.data.toList.length = s.size := data_length s
  have hin : i < s.data.toList.length := by omega
  have hsp := face_sp F.shape
  have hgp := face_gap F.shape
  have e26 : wrap64 (rd L 26) = rd L 26 := w64 (by omega) (by omega)
  have e27 : wrap64 (rd L 27) = rd L 27 := w64 (by omega) (by omega)
  rw [drop_foldl L P _ i hin]
  obtain ⟨c, hc⟩ : ∃ c, s.data.toList.getD i 0 = c := ⟨_, rfl⟩
  have hcm : c ∈ s.data.toList := hc ▸ getD_mem hin
  have ih := fun k xs w hk hx hw => fplaces_l0 F s hs ht d k (i + 1) xs w (by omega) hk hx hw
  rw [prev_succ, hc] at ih
  rw [hc]
  simp only [impl_Face_places.l0]
  rw [if_pos (by omega), if_pos (by omega), if_pos (by omega), bt_get s i hin, hc, wrap_succ i (by omega), e26]
  by_cases h : c = 32
  ·subst h
   rw [if_pos ((is32 32).2 rfl), step_blank, w64 (x := w + rd L 26) (by omega) (by omega)]
   exact ih k xs (w + rd L 26) (by omega) (by omega) (by omega)
  ·have hl := (ht c hcm).resolve_left h
   have hwB := wB_in F.len F.shape c hl.1 hl.2
   obtain ⟨k, rfl⟩ : ∃ k', k = k' + 1 := ⟨k - 1, by omega⟩
   rw [if_neg (fun hh => h ((is32 _).1 hh)), step_letter L P _ _ _ _ h]
   by_cases h0 : i = 0
   ·subst h0
    rw [if_neg (by omega), prev_zero, gapB_blank, Int.add_zero]
    simp only [impl_Face_places.j1]
    rw [if_neg (by simp), if_pos (by omega), if_pos (by omega), if_pos (by omega), bt_get s 0 hin, hc, fletter_eq F c hl.1 hl.2, Option.bind_some, w64 (x := w + wB L c) (by omega) (by omega), wrap_succ 0 (by omega)]
    exact ih k (xs ++ [w]) (w + wB L c) (by omega) (by rw [List.length_append, List.length_singleton]; omega) (by omega)
   ·have e1 : wrap64 ((i : Int) - 1) = ((i - 1 : Nat) : Int) := by unfold wrap64; omega
    have hin1 : i - 1 < s.data.toList.length := by omega
    obtain ⟨p, hp⟩ : ∃ p, s.data.toList.getD (i - 1) 0 = p := ⟨_, rfl⟩
    have hpr : prev s.data.toList i = p := by unfold prev; rw [if_neg h0, hp]
    have hg := gapB_in F.shape p c
    rw [if_pos (by omega), e1, if_pos (by omega), if_pos (by omega), hpr]
    simp only [impl_Face_places.j1]
    rw [e1, bt_get s (i - 1) hin1, bt_get s i hin, hp, hc, fletter_eq F c hl.1 hl.2]
    by_cases h2 : p = 32
    ·subst h2
     rw [gapB_blank, Int.add_zero]
     rw [if_neg (by simp), if_pos (by omega), if_pos (by omega), if_pos (by omega), Option.bind_some, w64 (x := w + wB L c) (by omega) (by omega), wrap_succ i (by omega)]
     exact ih k (xs ++ [w]) (w + wB L c) (by omega) (by rw [List.length_append, List.length_singleton]; omega) (by omega)
    ·have h2' : ((p.toNat : Int) != 32) = true := by rw [bne_iff_ne]; exact fun hh => h2 ((is32 _).1 hh)
     rw [gapB_letter L P p c h2] at hg ⊢
     rw [if_pos h2', if_pos (by omega), if_pos (by omega), if_pos (by omega), if_pos (by omega), by_eq F _ _ (by omega), Option.bind_some, if_pos (by omega), Option.bind_some, e27, w64 (x := rd L 27 + byP p.toNat c.toNat P) (by omega) (by omega), w64 (x := w + (rd L 27 + byP p.toNat c.toNat P)) (by omega) (by omega), w64 (x := w + (rd L 27 + byP p.toNat c.toNat P) + wB L c) (by omega) (by omega), wrap_succ i (by omega)]
     exact ih k _ _ (by omega) (by rw [List.length_append, List.length_singleton]; omega) (by omega)
theorem fplaces_eq {L : List Int} {P : List Pr} (F : FaceOk L P) (s : ByteArray) (hs : s.size ≤ 60) (ht : okTxt s.data.toList) {k : Nat} (hk : 140 < k) : impl_Face_places.f k (rd L 0) (rd L 1) (rd L 2) (rd L 3) (rd L 4) (rd L 5) (rd L 6) (rd L 7) (rd L 8) (rd L 9) (rd L 10) (rd L 11) (rd L 12) (rd L 13) (rd L 14) (rd L 15) (rd L 16) (rd L 17) (rd L 18) (rd L 19) (rd L 20) (rd L 21) (rd L 22) (rd L 23) (rd L 24) (rd L 25) (rd L 26) (rd L 27) P s = some (placesOf L P s.data.toList, lineOf L P s.data.toList) := by
 unfold impl_Face_places.f
 have h := fplaces_l0 F s hs ht s.size k 0 [] 0 (by omega) (by omega) (by simp) (by omega)
 rwa [show ((0 : Nat) : Int) = 0 from rfl, List.drop_zero, prev_zero] at h
theorem fwide_eq {L : List Int} {P : List Pr} (F : FaceOk L P) (s : ByteArray) (hs : s.size ≤ 60) (ht : okTxt s.data.toList) {k : Nat} (hk : 140 < k) : impl_Face_wide.f k (rd L 0) (rd L 1) (rd L 2) (rd L 3) (rd L 4) (rd L 5) (rd L 6) (rd L 7) (rd L 8) (rd L 9) (rd L 10) (rd L 11) (rd L 12) (rd L 13) (rd L 14) (rd L 15) (rd L 16) (rd L 17) (rd L 18) (rd L 19) (rd L 20) (rd L 21) (rd L 22) (rd L 23) (rd L 24) (rd L 25) (rd L 26) (rd L 27) P s = some (lineOf L P s.data.toList) := by
 unfold impl_Face_wide.f
 rw [fplaces_eq F s hs ht hk]
 rfl
def cut (t : List UInt8) (a b : Nat) : List UInt8 := (t.drop a).take (b - a)
def mkB (l : List UInt8) : ByteArray := ⟨l.toArray⟩
theorem mkB_data (l : List UInt8) : (mkB l).data.toList = l := rfl
theorem extract_cut (s : ByteArray) (a b : Nat) (hb : b ≤ s.size) : s.extract a b = mkB (cut s.data.toList a b) := by
 unfold mkB cut
 apply ByteArray.ext
 apply Array.toList_inj.1
 rw [ByteArray.data_extract, Array.toList_extract]
theorem cut_full (t : List UInt8) (a : Nat) : cut t a t.length = t.drop a := by
 unfold cut
 rw [List.take_of_length_le (by simp)]
theorem cut_drop (t : List UInt8) (a i : Nat) (h : a ≤ i) : t.drop a = cut t a i ++ t.drop i := by
 unfold cut
 have := List.take_append_drop (i - a) (t.drop a)
 rw [List.drop_drop, show a + (i - a) = i by omega] at this
 exact this.symm
theorem cut_succ (t : List UInt8) (a i : Nat) (h : a ≤ i) (hi : i < t.length) : cut t a (i + 1) = cut t a i ++ [t.getD i 0] := by
 unfold cut
 rw [show i + 1 - a = (i - a) + 1 by omega, List.take_succ_eq_append_getElem (by simp; omega)]
 congr 1
 simp [List.getD_eq_getElem?_getD, show a + (i - a) = i by omega, List.getElem?_eq_getElem hi]
theorem spl_cut (m r : List UInt8) (h : ∀ b ∈ m, b ≠ 32) : spl 32 (m ++ 32 :: r) = m :: spl 32 r := by
 induction m with
 | nil => rw [List.nil_append, spl, if_pos rfl]
 | cons c m ih =>
  rw [List.cons_append, spl, if_neg (h c (by simp)), ih (fun b hb => h b (by simp [hb]))]
theorem spl_word (m : List UInt8) (h : ∀ b ∈ m, b ≠ 32) : spl 32 m = [m] := by
 induction m with
 | nil => rfl
 | cons c m ih => rw [spl, if_neg (h c (by simp)), ih (fun b hb => h b (by simp [hb]))]
theorem spl_mem (l : List UInt8) : ∀ x ∈ spl 32 l, ∀ b ∈ x, b ∈ l ∧ b ≠ 32 := by
 induction l with
 | nil => intro x hx b hb; simp [spl] at hx; subst hx; simp at hb
 | cons c l ih =>
  intro x hx b hb
  rw [spl] at hx
  split at hx
  ·rcases List.mem_cons.1 hx with rfl | hx
   ·simp at hb
   ·exact ⟨List.mem_cons_of_mem _ (ih x hx b hb).1, (ih x hx b hb).2⟩
  ·rename_i hc
   split at hx
   ·simp at hx; subst hx; simp at hb; subst hb; exact ⟨by simp, hc⟩
   ·rename_i y ys he
    rw [he] at ih
    rcases List.mem_cons.1 hx with rfl | hx
    ·rcases List.mem_cons.1 hb with rfl | hb
     ·exact ⟨by simp, hc⟩
     ·exact ⟨List.mem_cons_of_mem _ (ih y (by simp) b hb).1, (ih y (by simp) b hb).2⟩
    ·exact ⟨List.mem_cons_of_mem _ (ih x (by simp [hx]) b hb).1, (ih x (by simp [hx]) b hb).2⟩
theorem spl_len (l : List UInt8) : (spl 32 l).length = l.count 32 + 1 := by
 induction l with
 | nil => rfl
 | cons c l ih =>
  rw [spl]
  split
  ·rename_i h; subst h; simp [ih]
  ·rename_i h
   rw [List.count_cons_of_ne (by simpa using h)]
   split
   ·rename_i he; rw [he] at ih; simp at ih
   ·rename_i he; rw [he] at ih; simpa using ih
theorem spl_size (l : List UInt8) : ∀ x ∈ spl 32 l, x.length ≤ l.length := by
 induction l with
 | nil => intro x hx; simp [spl] at hx; subst hx; simp
 | cons c l ih =>
  intro x hx
  rw [spl] at hx
  split at hx
  ·rcases List.mem_cons.1 hx with rfl | hx
   ·simp
   ·have := ih x hx; simp; omega
  ·split at hx
   ·simp at hx; subst hx; simp
   ·rename_i y ys he
    rw [he] at ih
    rcases List.mem_cons.1 hx with rfl | hx
    ·have := ih y (by simp); simp; omega
    ·have := ih x (by simp [hx]); simp; omega
theorem split_l0 (s : ByteArray) (hs : s.size ≤ 4611686018427) : ∀ (d k a i : Nat) (acc : List ByteArray), i + d = s.size → a ≤ i → d < k → acc.length ≤ i → (∀ b ∈ cut s.data.toList a i, b ≠ 32) →
  spec_l01Split.l0 k s 32 acc a i = some (acc ++ (spl 32 (s.data.toList.drop a)).map mkB)
 | 0, k, a, i, acc, hd, ha, hk, hacc, hno => by
  obtain ⟨k, rfl⟩ := some_k hk
  have hlen : s.data.toList.length = s.size := data_length s
  simp only [spec_l01Split.l0]
  obtain rfl : i = s.data.toList.length := by omega
  rw [if_neg (by omega), if_pos (by omega), if_pos (by omega), if_pos (by omega), Int.toNat_natCast, extract_cut s a s.size (by omega), ← hlen]
  rw [cut_full] at hno ⊢
  rw [spl_word _ hno]
  rfl
 | d + 1, k, a, i, acc, hd, ha, hk, hacc, hno => by
  obtain ⟨k, rfl⟩ := some_k hk
  have hlen : s.data.toList.length = s.size := data_length s
  have hin : i < s.data.toList.length := by omega
  simp only [spec_l01Split.l0]
  rw [if_pos (by omega), if_pos (by omega), bt_get s i hin, wrap_succ i (by omega)]
  by_cases h : s.data.toList.getD i 0 = 32
  ·rw [if_pos ((is32 _).2 h), if_pos (by omega), if_pos (by omega), if_pos (by omega), if_pos (by omega), Int.toNat_natCast, Int.toNat_natCast, extract_cut s a i (by omega)]
   rw [split_l0 s hs d k (i + 1) (i + 1) _ (by omega) (by omega) (by omega) (by rw [List.length_append, List.length_singleton]; omega) (by intro b hb; simp [cut] at hb)]
   rw [cut_drop s.data.toList a i ha, List.drop_eq_getElem_cons hin, show s.data.toList[i] = 32 by (rw [← h, List.getD_eq_getElem?_getD, List.getElem?_eq_getElem hin]; rfl), spl_cut _ _ hno]
   simp
  ·rw [if_neg (fun hh => h ((is32 _).1 hh))]
   refine split_l0 s hs d k a (i + 1) acc (by omega) (by omega) (by omega) (by omega) ?_
   intro b hb
   rw [cut_succ _ _ _ ha hin] at hb
   rcases List.mem_append.1 hb with hb | hb
   ·exact hno b hb
   ·rw [List.mem_singleton] at hb
    rw [hb]; exact h
def words (t : List UInt8) : List (List UInt8) := if t = [] then [] else spl 32 t
theorem inter_words (t : List UInt8) : inter (words t) = t := by
 unfold words
 split
 ·rename_i h; subst h; rfl
 ·exact inter_spl t
theorem words_eq (s : ByteArray) (hs : s.size ≤ 60) {k : Nat} (hk : 61 < k) : spec_l01Words.f k s = some ((words s.data.toList).map mkB) := by
 unfold spec_l01Words.f words
 rw [toList_data]
 by_cases h : s.data.toList = []
 ·rw [if_pos h, if_pos h]; rfl
 ·rw [if_neg h, if_neg h]
  unfold spec_l01Split.f
  have := split_l0 s (by omega) s.size k 0 0 [] (by omega) (by omega) (by omega) (by simp) (by intro b hb; simp [cut] at hb)
  rw [show ((0 : Nat) : Int) = 0 from rfl] at this
  rw [this]
  rfl
theorem words_len (t : List UInt8) (h : t.length ≤ 60) : (words t).length ≤ 61 := by
 unfold words
 split
 ·simp
 ·rw [spl_len]; have := List.count_le_length (a := (32 : UInt8)) (l := t); omega
theorem words_size (t : List UInt8) : ∀ x ∈ words t, x.length ≤ t.length := by
 unfold words
 split
 ·simp
 ·exact spl_size t
def lts (t : List UInt8) : Prop := ∀ b ∈ t, 65 ≤ b.toNat ∧ b.toNat ≤ 90
theorem words_lts (t : List UInt8) (ht : okTxt t) : ∀ x ∈ words t, lts x := by
 unfold words
 split
 ·simp
 ·intro x hx b hb
  have := spl_mem t x hx b hb
  exact (ht b this.1).resolve_left this.2
theorem letter_ok {b : UInt8} (h : 65 ≤ b.toNat ∧ b.toNat ≤ 90) : b ≠ 32 := by
 rintro rfl
 have : (32 : UInt8).toNat = 32 := rfl
 omega
theorem run_shift (L : List Int) (P : List Pr) (t : List UInt8) : ∀ (ys zs : List Int) (w v : Int) (p : UInt8), (t.foldl (Face.step L P) (ys, w + v, p)).2.1 = w + (t.foldl (Face.step L P) (zs, v, p)).2.1 := by
 induction t with
 | nil => intro ys zs w v p; rfl
 | cons c t ih =>
  intro ys zs w v p
  rw [List.foldl_cons, List.foldl_cons]
  by_cases h : c = 32
  ·subst h
   rw [step_blank, step_blank, Int.add_assoc]
   exact ih _ _ _ _ _
  ·rw [step_letter L P _ _ _ _ h, step_letter L P _ _ _ _ h]
   rw [show w + v + gapB L P p c + wB L c = w + (v + gapB L P p c + wB L c) by omega]
   exact ih _ _ _ _ _
theorem swide_l0 {L : List Int} {P : List Pr} (F : FaceOk L P) (s : ByteArray) (hs : s.size ≤ 60) (ht : lts s.data.toList) : ∀ (d k i : Nat) (xs : List Int) (w : Int), i + d = s.size → d + 14 < k → -60 * (i : Int) ≤ w ∧ w ≤ 60 * i →
  spec_l01Wide.l0 k s w i (rd L 0) (rd L 1) (rd L 2) (rd L 3) (rd L 4) (rd L 5) (rd L 6) (rd L 7) (rd L 8) (rd L 9) (rd L 10) (rd L 11) (rd L 12) (rd L 13) (rd L 14) (rd L 15) (rd L 16) (rd L 17) (rd L 18) (rd L 19) (rd L 20) (rd L 21) (rd L 22) (rd L 23) (rd L 24) (rd L 25) (rd L 26) (rd L 27) P = some (((s.data.toList.drop i).foldl (Face.step L P) (xs, w, prev s.data.toList i)).2.1)
 | 0, k, i, xs, w, hd, hk, hw => by
  obtain ⟨k, rfl⟩ := some_k hk
  simp only [spec_l01Wide.l0]
  rw [if_neg (by omega), List.drop_eq_nil_of_le (by rw [data_length]; omega)]
  rfl
 | d + 1, k, i, xs, w, hd, hk, hw => by
  obtain ⟨k, rfl⟩ := some_k hk
  have hlen : s.data.toList.length = s.size := data_length s
  have hin : i < s.data.toList.length := by omega
  have hgp := face_gap F.shape
  have e27 : wrap64 (rd L 27) = rd L 27 := w64 (by omega) (by omega)
  rw [drop_foldl L P _ i hin]
  obtain ⟨c, hc⟩ : ∃ c, s.data.toList.getD i 0 = c := ⟨_, rfl⟩
  have hl := ht c (hc ▸ getD_mem hin)
  have ih := fun k xs w hk hw => swide_l0 F s hs ht d k (i + 1) xs w (by omega) hk hw
  rw [prev_succ, hc] at ih
  rw [hc]
  have hwB := wB_in F.len F.shape c hl.1 hl.2
  simp only [spec_l01Wide.l0]
  rw [if_pos (by omega), if_pos (by omega), bt_get s i hin, hc, if_pos (by omega), if_pos (by omega), wrap_succ i (by omega), letter_at F c hl.1 hl.2, step_letter L P _ _ _ _ (letter_ok hl), w64 (x := w + wB L c) (by omega) (by omega)]
  by_cases h0 : i = 0
  ·subst h0
   rw [if_neg (by omega), prev_zero, gapB_blank, Int.add_zero]
   exact ih k (xs ++ [w]) (w + wB L c) (by omega) (by omega)
  ·have e1 : wrap64 ((i : Int) - 1) = ((i - 1 : Nat) : Int) := by unfold wrap64; omega
   have hin1 : i - 1 < s.data.toList.length := by omega
   obtain ⟨p, hp⟩ : ∃ p, s.data.toList.getD (i - 1) 0 = p := ⟨_, rfl⟩
   have hpm := ht p (hp ▸ getD_mem hin1)
   have hpr : prev s.data.toList i = p := by unfold prev; rw [if_neg h0, hp]
   have hg := gapB_in F.shape p c
   rw [gapB_letter L P p c (letter_ok hpm)] at hg
   rw [if_pos (by omega), e1, if_pos (by omega), if_pos (by omega), hpr, bt_get s (i - 1) hin1, hp, sby_eq F _ _ (by omega), Option.bind_some, e27, w64 (x := rd L 27 + byP p.toNat c.toNat P) (by omega) (by omega), w64 (x := w + wB L c + (rd L 27 + byP p.toNat c.toNat P)) (by omega) (by omega), gapB_letter L P p c (letter_ok hpm)]
   rw [show w + wB L c + (rd L 27 + byP p.toNat c.toNat P) = w + (rd L 27 + byP p.toNat c.toNat P) + wB L c by omega]
   exact ih k _ _ (by omega) (by omega)
theorem swide_eq {L : List Int} {P : List Pr} (F : FaceOk L P) (s : ByteArray) (hs : s.size ≤ 60) (ht : lts s.data.toList) {k : Nat} (hk : 76 < k) : spec_l01Wide.f k (rd L 0) (rd L 1) (rd L 2) (rd L 3) (rd L 4) (rd L 5) (rd L 6) (rd L 7) (rd L 8) (rd L 9) (rd L 10) (rd L 11) (rd L 12) (rd L 13) (rd L 14) (rd L 15) (rd L 16) (rd L 17) (rd L 18) (rd L 19) (rd L 20) (rd L 21) (rd L 22) (rd L 23) (rd L 24) (rd L 25) (rd L 26) (rd L 27) P s = some (lineOf L P s.data.toList) := by
 unfold spec_l01Wide.f
 have h := swide_l0 F s hs ht s.size k 0 [] 0 (by omega) (by omega) (by omega)
 rwa [show ((0 : Nat) : Int) = 0 from rfl, List.drop_zero, prev_zero] at h
theorem word_l0 (s : ByteArray) (hs : s.size ≤ 60) : ∀ (d k i : Nat), i + d = s.size → d < k →
  spec_l01Word.l0 k s i = some (((s.data.toList.drop i).all fun b => decide (65 ≤ b.toNat) && decide (b.toNat ≤ 90)) && decide (s.size > 0))
 | 0, k, i, hd, hk => by
  obtain ⟨k, rfl⟩ := some_k hk
  simp only [spec_l01Word.l0]
  rw [if_neg (by omega), List.drop_eq_nil_of_le (by rw [data_length]; omega), List.all_nil, Bool.true_and]
  congr 1
  rw [Bool.eq_iff_iff]; simp
 | d + 1, k, i, hd, hk => by
  obtain ⟨k, rfl⟩ := some_k hk
  have hlen : s.data.toList.length = s.size := data_length s
  have hin : i < s.data.toList.length := by omega
  have ih := word_l0 s hs d k (i + 1) (by omega) (by omega)
  simp only [spec_l01Word.l0]
  rw [if_pos (by omega), if_pos (by omega), wrap_succ i (by omega), letter_eq s i hin, Option.bind_some, ih, List.drop_eq_getElem_cons hin, List.all_cons]
  rw [show s.data.toList.getD i 0 = s.data.toList[i] by rw [List.getD_eq_getElem?_getD, List.getElem?_eq_getElem hin]; rfl]
  cases (decide (65 ≤ s.data.toList[i].toNat) && decide (s.data.toList[i].toNat ≤ 90)) <;> simp
end Go.Proofs.YticjkfacdmmopaaDoor.Pure
namespace Go.Proofs.YticjkfacdmmopaaDoor.Ext
end Go.Proofs.YticjkfacdmmopaaDoor.Ext
namespace Go.Proofs.YticjkfacdmmopaaDoor.Q
open Go.Proofs.YticjkfacdmmopaaDoor.Ext
open Go.RowKit Go.Proofs.YticjkfacdmmopaaDoorW.PrintWords Go.Proofs.YticjkfacdmmopaaDoorW.PrintLast Go.Proofs.YticjkfacdmmopaaDoorW.PrintMore
attribute [local go_sem] max2_int min2_int max_two min_two max_three min_three max_four min_four
set_option linter.unusedVariables false
set_option linter.unusedSimpArgs false
def spec_l01Room.f (a0 : Int) : Option (Bool) := (spec_l00In.f a0 0 4000).bind fun t418 => (some t418)
set_option maxHeartbeats 8000000 in
set_option maxRecDepth 100000 in
theorem spec_l01Room.calls (a0 : Int) (r : Bool) (w : World) (h : spec_l01Room.f a0 = some r) :
  Calls Tryd.prog 77 #[.int .i64 a0] w fun e w' => e = .returned (.bool r) ∧ Drawn0 w w' := by
 have H : ((spec_l00In.f a0 0 4000).bind fun t418 => (some t418)) = some r := h
 clear h
 replace H := Option.bind_eq_some_iff.mp H
 obtain ⟨t418, A20, H⟩ := H
 replace H : (some t418) = some r := H
 have A2 := Aside0.mk A20
 clear A20
 obtain rfl := Option.some.inj H
 go_enter Tryd.func77, Tryd.ntmps77
 go_wp2_with (first | ((with_reducible refine gate_callee (f := 84) rfl ?_); refine goesL_ (some 4) rfl rfl Tryd.func84 (by kernel_rfl) rfl #[.int .i64 a0, .int .i64 0, .int .i64 4000] rfl (by (try simp only [List.map_toArray, List.map_cons, List.map_nil]); first | done | rfl | (simp only [List.length_drop, List.length_take]; rfl)) ?_; (with_reducible refine (spec_l00In.calls a0 0 4000 t418 _ A2.out).mono ?_); rintro e w' ⟨rfl, ⟨nd, rfl⟩⟩; refine ⟨_, rfl, ?_⟩))
 go_ret
 exact ⟨by first | rfl | (simp; done) | (simp [*]; done), by repeat (first | exact Drawn0.refl _ | apply Drawn0.step)⟩
end Go.Proofs.YticjkfacdmmopaaDoor.Q
namespace Go.Proofs.YticjkfacdmmopaaDoor.Pure
open Go.RowKit Go.Proofs.YticjkfacdmmopaaDoor.Ext Go.Proofs.YticjkfacdmmopaaDoor.Q Go.Proofs.YticjkfacdmmopaaDoor.Txt Go.Proofs.YticjkfacdmmopaaDoor.Face Go.Proofs.YticjkfacdmmopaaDoorW.PrintWords Go.Proofs.YticjkfacdmmopaaDoorW.PrintLast Go.Proofs.YticjkfacdmmopaaDoorW.PrintMore
set_option linter.unusedVariables false
set_option linter.unusedSimpArgs false
set_option maxRecDepth 100000
theorem inter_drop (ws : List (List UInt8)) (j : Nat) (h : j < ws.length) : inter (ws.drop j) = if j + 1 = ws.length then ws.getD j [] else ws.getD j [] ++ 32 :: inter (ws.drop (j + 1)) := by
 rw [List.drop_eq_getElem_cons h, show ws[j] = ws.getD j [] by rw [List.getD_eq_getElem?_getD, List.getElem?_eq_getElem h]; rfl]
 split
 ·rw [List.drop_eq_nil_of_le (by omega)]; rfl
 ·rw [List.drop_eq_getElem_cons (show j + 1 < ws.length by omega)]; rfl
theorem ws_mem {ws : List (List UInt8)} {j : Nat} (h : j < ws.length) : ws.getD j [] ∈ ws := by
 rw [List.getD_eq_getElem?_getD, List.getElem?_eq_getElem h]
 exact List.getElem_mem h
theorem rdOf_mk (ws : List (List UInt8)) (j : Nat) (h : j < ws.length) : rdOf ByteArray.empty (ws.map mkB) (j : Int) = mkB (ws.getD j []) := by
 unfold rdOf
 rw [Int.toNat_natCast, List.getD_eq_getElem?_getD, List.getElem?_map, List.getElem?_eq_getElem h, List.getD_eq_getElem?_getD, List.getElem?_eq_getElem h]
 rfl
theorem mkB_size (x : List UInt8) : (mkB x).size = x.length := by rw [← data_length]; rfl
theorem word_run (L : List Int) (P : List Pr) (x : List UInt8) (xs : List Int) (w : Int) : ∃ ys q, x.foldl (Face.step L P) (xs, w, 32) = (ys, w + lineOf L P x, q) := by
 have h := run_shift L P x xs [] w 0 32
 rw [Int.add_zero] at h
 exact ⟨_, _, by rw [lineOf, Face.run, ← h]⟩
theorem lts_ok {x : List UInt8} (h : lts x) : okTxt x := fun b hb => .inr (h b hb)
theorem line_l0 {L : List Int} {P : List Pr} (F : FaceOk L P) (ws : List (List UInt8)) (hws : ∀ x ∈ ws, lts x ∧ x.length ≤ 60) (hl : ws.length ≤ 61) : ∀ (d k j : Nat) (xs : List Int) (w : Int), j + d = ws.length → d + 77 < k → -3700 * (j : Int) ≤ w ∧ w ≤ 3700 * j →
  spec_l01Line.l0 k (ws.map mkB) w j (rd L 0) (rd L 1) (rd L 2) (rd L 3) (rd L 4) (rd L 5) (rd L 6) (rd L 7) (rd L 8) (rd L 9) (rd L 10) (rd L 11) (rd L 12) (rd L 13) (rd L 14) (rd L 15) (rd L 16) (rd L 17) (rd L 18) (rd L 19) (rd L 20) (rd L 21) (rd L 22) (rd L 23) (rd L 24) (rd L 25) (rd L 26) (rd L 27) P = some (if d = 0 then w else ((inter (ws.drop j)).foldl (Face.step L P) (xs, w + (if j = 0 then 0 else rd L 26), 32)).2.1)
 | 0, k, j, xs, w, hd, hk, hw => by
  obtain ⟨k, rfl⟩ := some_k hk
  simp only [spec_l01Line.l0]
  rw [if_neg (by rw [List.length_map]; omega)]
  rfl
 | d + 1, k, j, xs, w, hd, hk, hw => by
  obtain ⟨k, rfl⟩ := some_k hk
  have hj : j < ws.length := by omega
  have hm := hws _ (ws_mem hj)
  have hsp := face_sp F.shape
  have e26 : wrap64 (rd L 26) = rd L 26 := w64 (by omega) (by omega)
  have hin := line_in F.len F.shape (ws.getD j []) (lts_ok hm.1)
  have hwide : spec_l01Wide.f k (rd L 0) (rd L 1) (rd L 2) (rd L 3) (rd L 4) (rd L 5) (rd L 6) (rd L 7) (rd L 8) (rd L 9) (rd L 10) (rd L 11) (rd L 12) (rd L 13) (rd L 14) (rd L 15) (rd L 16) (rd L 17) (rd L 18) (rd L 19) (rd L 20) (rd L 21) (rd L 22) (rd L 23) (rd L 24) (rd L 25) (rd L 26) (rd L 27) P (mkB (ws.getD j [])) = some (lineOf L P (ws.getD j [])) := by
   have := swide_eq F (mkB (ws.getD j [])) (by rw [mkB_size]; exact hm.2) (by rw [mkB_data]; exact hm.1) (k := k) (by omega)
   rwa [mkB_data] at this
  have hm2 := hm.2
  simp only [spec_l01Line.l0]
  rw [if_pos (by rw [List.length_map]; omega), if_pos (by omega), rdOf_mk ws j hj, hwide, Option.bind_some, e26, wrap_succ j (by omega), w64 (x := w + lineOf L P (ws.getD j [])) (by omega) (by omega), w64 (x := w + lineOf L P (ws.getD j []) + rd L 26) (by omega) (by omega)]
  rw [if_neg (show ¬ (d + 1 = 0) by omega), inter_drop ws j hj]
  obtain ⟨ys, q, hr⟩ := word_run L P (ws.getD j []) xs (w + (if j = 0 then 0 else rd L 26))
  have hnext : (if (j : Int) > 0 then spec_l01Line.l0 k (ws.map mkB) (w + lineOf L P (ws.getD j []) + rd L 26) ((j + 1 : Nat) : Int) (rd L 0) (rd L 1) (rd L 2) (rd L 3) (rd L 4) (rd L 5) (rd L 6) (rd L 7) (rd L 8) (rd L 9) (rd L 10) (rd L 11) (rd L 12) (rd L 13) (rd L 14) (rd L 15) (rd L 16) (rd L 17) (rd L 18) (rd L 19) (rd L 20) (rd L 21) (rd L 22) (rd L 23) (rd L 24) (rd L 25) (rd L 26) (rd L 27) P else spec_l01Line.l0 k (ws.map mkB) (w + lineOf L P (ws.getD j [])) ((j + 1 : Nat) : Int) (rd L 0) (rd L 1) (rd L 2) (rd L 3) (rd L 4) (rd L 5) (rd L 6) (rd L 7) (rd L 8) (rd L 9) (rd L 10) (rd L 11) (rd L 12) (rd L 13) (rd L 14) (rd L 15) (rd L 16) (rd L 17) (rd L 18) (rd L 19) (rd L 20) (rd L 21) (rd L 22) (rd L 23) (rd L 24) (rd L 25) (rd L 26) (rd L 27) P) = spec_l01Line.l0 k (ws.map mkB) (w + (if j = 0 then 0 else rd L 26) + lineOf L P (ws.getD j [])) ((j + 1 : Nat) : Int) (rd L 0) (rd L 1) (rd L 2) (rd L 3) (rd L 4) (rd L 5) (rd L 6) (rd L 7) (rd L 8) (rd L 9) (rd L 10) (rd L 11) (rd L 12) (rd L 13) (rd L 14) (rd L 15) (rd L 16) (rd L 17) (rd L 18) (rd L 19) (rd L 20) (rd L 21) (rd L 22) (rd L 23) (rd L 24) (rd L 25) (rd L 26) (rd L 27) P := by
   by_cases h0 : j = 0
   ·subst h0
    rw [if_neg (by omega), if_pos rfl, Int.add_zero]
   ·rw [if_pos (by omega), if_neg h0, show w + lineOf L P (ws.getD j []) + rd L 26 = w + rd L 26 + lineOf L P (ws.getD j []) by omega]
  have hsp2 : (0 : Int) ≤ (if j = 0 then 0 else rd L 26) ∧ (if j = 0 then 0 else rd L 26) ≤ 40 := by split <;> omega
  rw [hnext, line_l0 F ws hws hl d k (j + 1) ys _ (by omega) (by omega) (by omega)]
  by_cases hlast : j + 1 = ws.length
  ·rw [if_pos (by omega), if_pos hlast, hr]
  ·rw [if_neg (by omega), if_neg hlast, List.foldl_append, hr, List.foldl_cons, step_blank, if_neg (show ¬ (j + 1 = 0) by omega)]
theorem line_eq {L : List Int} {P : List Pr} (F : FaceOk L P) (s : ByteArray) (hs : s.size ≤ 60) (ht : okTxt s.data.toList) {k : Nat} (hk : 200 < k) : spec_l01Line.f k (rd L 0) (rd L 1) (rd L 2) (rd L 3) (rd L 4) (rd L 5) (rd L 6) (rd L 7) (rd L 8) (rd L 9) (rd L 10) (rd L 11) (rd L 12) (rd L 13) (rd L 14) (rd L 15) (rd L 16) (rd L 17) (rd L 18) (rd L 19) (rd L 20) (rd L 21) (rd L 22) (rd L 23) (rd L 24) (rd L 25) (rd L 26) (rd L 27) P ((words s.data.toList).map mkB) = some (lineOf L P s.data.toList) := by
 have hlen : s.data.toList.length = s.size := data_length s
 have hwl := words_len s.data.toList (by omega)
 unfold spec_l01Line.f
 have h := line_l0 F (words s.data.toList) (fun x hx => ⟨words_lts _ ht x hx, by have := words_size _ x hx; omega⟩) hwl (words s.data.toList).length k 0 [] 0 (by omega) (by omega) (by omega)
 rw [show ((0 : Nat) : Int) = 0 from rfl] at h
 rw [h, if_pos rfl, List.drop_zero, inter_words, Int.add_zero]
 congr 1
 split
 ·rename_i h0
  have := List.length_eq_zero_iff.1 h0
  have h2 := inter_words s.data.toList
  rw [this] at h2
  rw [← h2]
  rfl
 ·rfl
theorem all28 (L : List Int) (h : L.length = 28) : [rd L 0, rd L 1, rd L 2, rd L 3, rd L 4, rd L 5, rd L 6, rd L 7, rd L 8, rd L 9, rd L 10, rd L 11, rd L 12, rd L 13, rd L 14, rd L 15, rd L 16, rd L 17, rd L 18, rd L 19, rd L 20, rd L 21, rd L 22, rd L 23, rd L 24, rd L 25, rd L 26, rd L 27] = L := by
 have e : [rd L 0, rd L 1, rd L 2, rd L 3, rd L 4, rd L 5, rd L 6, rd L 7, rd L 8, rd L 9, rd L 10, rd L 11, rd L 12, rd L 13, rd L 14, rd L 15, rd L 16, rd L 17, rd L 18, rd L 19, rd L 20, rd L 21, rd L 22, rd L 23, rd L 24, rd L 25, rd L 26, rd L 27] = (List.range 28).map fun n : Nat => rd L (n : Int) := rfl
 rw [e]
 apply List.ext_getElem (by simp [h])
 intro i h1 h2
 rw [List.getElem_map, List.getElem_range, rd_get L i h2]
theorem validFace_eq {L : List Int} {P : List Pr} (hl : L.length = 28) (hr : rngB L P = true) : impl_ValidFace.f (rd L 0) (rd L 1) (rd L 2) (rd L 3) (rd L 4) (rd L 5) (rd L 6) (rd L 7) (rd L 8) (rd L 9) (rd L 10) (rd L 11) (rd L 12) (rd L 13) (rd L 14) (rd L 15) (rd L 16) (rd L 17) (rd L 18) (rd L 19) (rd L 20) (rd L 21) (rd L 22) (rd L 23) (rd L 24) (rd L 25) (rd L 26) (rd L 27) P = some (faceB L P) := by
 unfold impl_ValidFace.f impl_Face_isFace.f isFaceF
 rw [all28 L hl, if_pos hr, Option.bind_some]
 unfold faceB
 cases shapeB L P
 ·simp
 ·rw [if_pos rfl, Bool.and_true]
  congr 1
  rw [Bool.eq_iff_iff]; simp; omega
theorem l01Face_eq {L : List Int} {P : List Pr} (hl : L.length = 28) (hr : rngB L P = true) : spec_l01Face.f (rd L 0) (rd L 1) (rd L 2) (rd L 3) (rd L 4) (rd L 5) (rd L 6) (rd L 7) (rd L 8) (rd L 9) (rd L 10) (rd L 11) (rd L 12) (rd L 13) (rd L 14) (rd L 15) (rd L 16) (rd L 17) (rd L 18) (rd L 19) (rd L 20) (rd L 21) (rd L 22) (rd L 23) (rd L 24) (rd L 25) (rd L 26) (rd L 27) P = some (faceB L P) := by
 unfold spec_l01Face.f spec_l01Shape.f isFaceF
 rw [all28 L hl, if_pos hr]
 unfold faceB
 by_cases h : P.length ≤ 12
 ·rw [if_pos (by omega), Option.bind_some, show decide (P.length ≤ 12) = true by simpa using h, Bool.true_and]
 ·rw [if_neg (by omega), show decide (P.length ≤ 12) = false by simpa using h, Bool.false_and]
theorem txt_size {s : ByteArray} (h : txt s.data.toList = true) : s.size ≤ 60 := by
 unfold txt at h
 simp only [Bool.and_eq_true, decide_eq_true_eq] at h
 have := h.1.1
 rwa [data_length] at this
theorem txt_ok {t : List UInt8} (h : txt t = true) : okTxt t := by
 unfold txt at h
 simp only [Bool.and_eq_true, decide_eq_true_eq] at h
 intro b hb
 have := List.all_eq_true.1 h.1.2.1 b hb
 unfold okB at this
 simp only [Bool.or_eq_true, Bool.and_eq_true, decide_eq_true_eq, beq_iff_eq] at this
 exact this.symm
theorem room_eq (n : Int) : spec_l01Room.f n = some (inB n 0 4000) := by
 unfold spec_l01Room.f
 rw [in_eq]
 rfl
theorem line_room {L : List Int} {P : List Pr} (F : FaceOk L P) {s : ByteArray} (h : txt s.data.toList = true) : -3600 ≤ lineOf L P s.data.toList ∧ lineOf L P s.data.toList ≤ 3600 := by
 have h1 := line_in F.len F.shape s.data.toList (txt_ok h)
 have h2 := txt_size h
 have h3 : s.data.toList.length = s.size := data_length s
 omega
theorem txt_size0 {s : ByteArray} (h : txt s.data.toList = true) : s.size ≤ 60 := by
 unfold txt at h
 simp only [Bool.and_eq_true, decide_eq_true_eq] at h
 have := h.1.1
 rwa [data_length] at this
theorem contains32 (l : List UInt8) : Lib.contains l [32] = !(l.all fun b => b != 32) := by
 induction l with
 | nil => rfl
 | cons b l ih =>
  unfold Lib.contains at ih ⊢
  rw [List.all_cons]
  by_cases hb : b = 32
  ·subst hb
   rw [index_cons_self]
   rfl
  ·have hb' : (b != 32) = true := by simpa using hb
   rw [hb', Bool.true_and, ← ih]
   by_cases h : 0 ≤ Lib.index l [32]
   ·obtain ⟨i, hi⟩ := Int.eq_ofNat_of_zero_le h
    rw [index_cons_hit hb hi, hi]
    rw [Bool.eq_iff_iff]; simp; omega
   ·have h1 : Lib.index l [32] = -1 := by have := Lib.index_ge l [32]; omega
    rw [index_cons_miss hb h1, h1]
theorem isWord_eq (s : ByteArray) {k : Nat} (hk : 60 < k) : impl_isWord.f k s = some (txt s.data.toList && wordB s.data.toList) := by
 unfold impl_isWord.f
 rw [valid_eq s (.inr hk), Option.bind_some]
 cases ht : txt s.data.toList
 ·simp
 ·have hs := txt_size0 ht
  rw [if_pos rfl, toList_data, Bool.true_and]
  unfold wordB
  by_cases h : s.data.toList = []
  ·rw [if_pos h, h]; rfl
  ·rw [if_neg h]
   unfold strings_Contains.f
   rw [if_pos (by omega), Option.bind_some, show (⟨#[32]⟩ : ByteArray).data.toList = [32] from rfl, contains32, Bool.not_not, show (s.data.toList != []) = true by simpa using h, Bool.true_and]
end Go.Proofs.YticjkfacdmmopaaDoor.Pure
namespace Go.Proofs.YticjkfacdmmopaaDoor.Ext
open Go.RowKit Go.Proofs.YticjkfacdmmopaaDoor.Q Go.Proofs.YticjkfacdmmopaaDoor.Txt Go.Proofs.YticjkfacdmmopaaDoor.Face Go.Proofs.YticjkfacdmmopaaDoorW.PrintWords Go.Proofs.YticjkfacdmmopaaDoorW.PrintLast Go.Proofs.YticjkfacdmmopaaDoorW.PrintMore
set_option linter.unusedVariables false
set_option linter.unusedSimpArgs false
def idxS (p : ByteArray → Bool) : List ByteArray → Int
 | [] => -1
 | x :: xs => if p x then 0 else if idxS p xs < 0 then -1 else idxS p xs + 1
theorem idxS_lo (p : ByteArray → Bool) (l : List ByteArray) : -1 ≤ idxS p l ∧ idxS p l < l.length := by
 induction l with
 | nil => simp [idxS]
 | cons x xs ih => simp only [idxS, List.length_cons]; split <;> (try split) <;> omega
theorem idxS_any_iff (p : ByteArray → Bool) (l : List ByteArray) : 0 ≤ idxS p l ↔ l.any p = true := by
 induction l with
 | nil => simp [idxS]
 | cons x xs ih =>
  have := idxS_lo p xs
  simp only [idxS, List.any_cons, Bool.or_eq_true, ← ih]
  by_cases hx : p x = true
  ·simp [hx]
  ·rw [if_neg hx]
   split
   ·constructor
    ·intro h; omega
    ·rintro (h | h)
     ·exact absurd h hx
     ·omega
   ·constructor
    ·intro h; right; omega
    ·intro h; omega
theorem idxS_any (p : ByteArray → Bool) (l : List ByteArray) : decide (0 ≤ idxS p l) = l.any p := by
 rw [Bool.eq_iff_iff, decide_eq_true_iff]
 exact idxS_any_iff p l
theorem idxS_miss (p : ByteArray → Bool) : ∀ (l : List ByteArray), (∀ j, j < l.length → p (l.getD j ByteArray.empty) = false) → idxS p l = -1
 | [], _ => rfl
 | x :: xs, h => by
  have h0 := h 0 (by simp)
  have ih := idxS_miss p xs (fun j hj => by have := h (j + 1) (by simp; omega); simpa using this)
  simp at h0
  simp [idxS, h0, ih]
theorem idxS_hit (p : ByteArray → Bool) : ∀ (l : List ByteArray) (k : Nat), k < l.length → p (l.getD k ByteArray.empty) = true → (∀ j, j < k → p (l.getD j ByteArray.empty) = false) → idxS p l = k
 | [], k, hk, _, _ => by simp at hk
 | x :: xs, 0, hk, h, _ => by simp at h; simp [idxS, h]
 | x :: xs, k + 1, hk, h, hm => by
  have h0 := hm 0 (by omega)
  simp at h0
  have ih := idxS_hit p xs k (by simp at hk; omega) (by simpa using h) (fun j hj => by have := hm (j + 1) (by omega); simpa using this)
  simp [idxS, h0, ih]
  omega
def PrediS (g : Nat) (lb : Array Value) (p : ByteArray → Bool) (w : World) : Prop :=
 ∀ (W : World) (x : ByteArray), Below w.heap.size w W → Calls Tryd.prog g (#[.string x] ++ lb) W fun e w' => e = .returned (.bool (p x)) ∧ Below w.heap.size w w'
set_option maxHeartbeats 1000000 in
theorem indexFunc_str (g : Nat) (lb : Array Value) (p : ByteArray → Bool) (eg : ∀ args w, (callFunc g args).run Tryd.prog w = .ok (.enter g args) w) (A : Option Addr) (c : Nat) (l : List ByteArray) (w : World)
  (hp : PrediS g lb p w) (hr : Kd.C Kd.string w A l.length l) :
  Calls Tryd.prog 145 #[.slice A l.length c, .func (.func g) #[] lb] w fun e w' => e = .returned (.int .i64 (idxS p l)) ∧ Below w.heap.size w w' := by
 have HR := Aside0.mk hr
 have hbig : l.length ≤ 9223372036854775807 := hr.2.1
 clear hr
 go_enter Tryd.func145, Tryd.ntmps145
 go_wp2
 go_loopg [5, 8] l.length (fun gg _ s8 wr => ∃ kk : Nat, kk ≤ l.length ∧ l.length - kk ≤ gg ∧ s8 = .int .i64 kk ∧ Aside0 (Below w.heap.size w wr) ∧ Aside0 (∀ j, j < kk → p (l.getD j ByteArray.empty) = false))
 case atStart => exact ⟨0, Nat.zero_le _, by omega, rfl, ⟨Below.refl _ w⟩, ⟨fun j hj => absurd hj (Nat.not_lt_zero _)⟩⟩
 case round =>
  obtain ⟨kk, hkk, hg, rfl, BW, A1⟩ := hrel
  by_cases hlt : kk < l.length
  ·have hltz : (kk : Int) < (l.length : Int) := by omega
   obtain ⟨ad, rfl, hc0⟩ := Kd.at_string HR.out kk (by omega) (by omega)
   rw [Int.toNat_natCast] at hc0
   have hc := (BW.out.cell (World.block_lt_of_cell? w _ hc0)).trans hc0
   have hcall := hp wr (rdOf ByteArray.empty l kk) BW.out
   clear hc0 hp
   generalize hy : rdOf ByteArray.empty l kk = y at hc hcall
   have B := Aside0.mk hy
   clear hy
   cases hq : p y with
   | true =>
    rw [hq] at hcall
    go_wp2_with fail
    refine hcall.mono ?_
    rintro e w' ⟨rfl, hb'⟩
    go_wp2_with fail
    go_ret
    refine ⟨?_, hb'⟩
    rw [idxS_hit p l kk hlt (by have := B.out; unfold rdOf at this; simp only [Int.toNat_natCast] at this; rw [this]; exact hq) A1.out]
    rfl
   | false =>
    rw [hq] at hcall
    go_wp2_with fail
    refine hcall.mono ?_
    rintro e w' ⟨rfl, hb'⟩
    go_wp2_with fail
    go_roundg (l.length - (kk + 1))
    case measure => omega
    case rel =>
     refine ⟨kk + 1, by omega, by omega, by go_num, ⟨hb'⟩, ⟨fun j hj => ?_⟩⟩
     by_cases e : j = kk
     ·subst e
      have := B.out; unfold rdOf at this; simp only [Int.toNat_natCast] at this; rw [this]; exact hq
     ·exact A1.out j (by omega)
  ·have hltz : ¬ (kk : Int) < (l.length : Int) := by omega
   have : kk = l.length := by omega
   subst this
   go_wp2
   go_ret
   refine ⟨?_, BW.out⟩
   rw [idxS_miss p l A1.out]
   rfl
set_option maxHeartbeats 1000000 in
theorem containsFunc_str (g : Nat) (lb : Array Value) (p : ByteArray → Bool) (eg : ∀ args w, (callFunc g args).run Tryd.prog w = .ok (.enter g args) w) (A : Option Addr) (c : Nat) (l : List ByteArray) (w : World)
  (hp : PrediS g lb p w) (hr : Kd.C Kd.string w A l.length l) :
  Calls Tryd.prog 110 #[.slice A l.length c, .func (.func g) #[] lb] w fun e w' => e = .returned (.bool (l.any p)) ∧ Below w.heap.size w w' := by
 rw [← idxS_any]
 go_enter Tryd.func110, Tryd.ntmps110
 go_wp2_with (go_at_call 145; refine (indexFunc_str g lb p eg A c l _ hp hr).mono ?_; rintro e w' ⟨rfl, hb'⟩)
 go_ret
 exact ⟨rfl, hb'⟩
def shortB (s : ByteArray) : Bool := (txt s.data.toList && wordB s.data.toList) && decide (s.size ≤ 20)
theorem isShort_calls (s : ByteArray) (w : World) (hG : GlobM w) : Calls Tryd.prog 156 #[.string s] w fun e w' => e = .returned (.bool (shortB s)) ∧ Below w.heap.size w w' := by
 have HG := Aside0.mk hG
 clear hG
 go_enter Tryd.func156, Tryd.ntmps156
 go_wp2_with fail
 refine (impl_isWord.calls 100 s _ _ HG.out (Pure.isWord_eq s (by omega))).mono ?_
 rintro e w' ⟨rfl, hb⟩
 cases hw : (txt s.data.toList && wordB s.data.toList)
 ·go_wp2
  go_ret
  exact ⟨by unfold shortB; rw [hw]; rfl, hb⟩
 ·go_wp2
  go_ret
  refine ⟨?_, hb⟩
  unfold shortB
  have e1 : decide ((s.size : Int) ≤ 20) = decide (s.size ≤ 20) := by
   rw [Bool.eq_iff_iff, decide_eq_true_iff, decide_eq_true_iff]
   omega
  rw [hw, Bool.true_and, ← e1]
  rfl
theorem pred_ValidList (w : World) (hG : GlobM w) : PrediS 155 #[] (fun s => !shortB s) w := by
 intro W x hb
 go_enter Tryd.func155, Tryd.ntmps155
 go_wp2_with fail
 refine (isShort_calls x _ (hG.below hb)).mono ?_
 rintro e w' ⟨rfl, hb'⟩
 go_wp2_with fail
 go_ret
 exact ⟨rfl, by first | exact below_step hb hb' | exact hb.trans hb'⟩
def listB (l : List ByteArray) : Bool := decide (l.length ≤ 12) && l.all shortB
def impl_ValidList.f (l : List ByteArray) : Option Bool := some (listB l)
set_option maxHeartbeats 1000000 in
theorem impl_ValidList.calls (A : Option Addr) (c : Nat) (l : List ByteArray) (r : Bool) (w : World) (hr : Kd.C Kd.string w A l.length l) (hc : l.length ≤ c) (hG : GlobM w) (h : impl_ValidList.f l = some r) :
  Calls Tryd.prog 134 #[.slice A l.length c] w fun e w' => e = .returned (.bool r) ∧ Below w.heap.size w w' := by
 obtain rfl := Option.some.inj h
 have HR := Aside0.mk hr
 have HG := Aside0.mk hG
 clear hr hG h
 by_cases hl : l.length ≤ 12
 ·go_enter Tryd.func134, Tryd.ntmps134
  go_wp2_with fail
  refine (containsFunc_str _ _ _ (enters_of Tryd.func155 (by kernel_rfl) rfl) A c l _ (pred_ValidList _ HG.out) HR.out).mono ?_
  rintro e w' ⟨rfl, hb⟩
  go_wp2_with fail
  go_ret
  refine ⟨?_, hb⟩
  have e1 : (!(l.any fun s => !shortB s)) = l.all shortB := by
   rw [Bool.eq_iff_iff]
   simp
  unfold listB
  rw [show decide (l.length ≤ 12) = true by simpa using hl, Bool.true_and, ← e1]
  rfl
 ·go_enter Tryd.func134, Tryd.ntmps134
  go_wp2_with fail
  go_ret
  refine ⟨?_, Below.refl _ w⟩
  unfold listB
  rw [show decide (l.length ≤ 12) = false by simpa using hl, Bool.false_and]
  rfl
end Go.Proofs.YticjkfacdmmopaaDoor.Ext
namespace Go.Proofs.YticjkfacdmmopaaDoor.Q
open Go.Proofs.YticjkfacdmmopaaDoor.Ext
open Go.RowKit Go.Proofs.YticjkfacdmmopaaDoorW.PrintWords Go.Proofs.YticjkfacdmmopaaDoorW.PrintLast Go.Proofs.YticjkfacdmmopaaDoorW.PrintMore
attribute [local go_sem] max2_int min2_int max_two min_two max_three min_three max_four min_four
set_option linter.unusedVariables false
set_option linter.unusedSimpArgs false
def spec_l04Word.f (k : Nat) (a0 : ByteArray) : Option (Bool) := (spec_l00In.f (a0.size : Int) 1 20).bind fun t1052 => (if t1052 = true then ((spec_l01Word.f k a0).bind fun t1053 => (some t1053)) else (some false))
set_option maxHeartbeats 8000000 in
set_option maxRecDepth 100000 in
theorem spec_l04Word.calls (k : Nat) (a0 : ByteArray) (r : Bool) (w : World) (h : spec_l04Word.f k a0 = some r) :
  Calls Tryd.prog 154 #[.string a0] w fun e w' => e = .returned (.bool r) ∧ Drawn0 w w' := by
 have H : ((spec_l00In.f (a0.size : Int) 1 20).bind fun t1052 => (if t1052 = true then ((spec_l01Word.f k a0).bind fun t1053 => (some t1053)) else (some false))) = some r := h
 clear h
 replace H := Option.bind_eq_some_iff.mp H
 obtain ⟨t1052, A20, H⟩ := H
 (try dsimp only at H)
 have A2 := Aside0.mk A20
 clear A20
 by_cases c3 : t1052 = true
 ·subst c3
  rw [if_pos rfl] at H
  have H1 := H
  clear H
  have H := H1
  clear H1
  replace H := Option.bind_eq_some_iff.mp H
  obtain ⟨t1053, A40, H⟩ := H
  replace H : (some t1053) = some r := H
  have A4 := Aside0.mk A40
  clear A40
  obtain rfl := Option.some.inj H
  go_enter Tryd.func154, Tryd.ntmps154
  go_wp2_with (first | ((with_reducible refine gate_callee (f := 84) rfl ?_); refine goesL_ (some 5) rfl rfl Tryd.func84 (by kernel_rfl) rfl #[.int .i64 (a0.size : Int), .int .i64 1, .int .i64 20] rfl (by (try simp only [List.map_toArray, List.map_cons, List.map_nil]); first | done | rfl | (simp only [List.length_drop, List.length_take]; rfl)) ?_; (with_reducible refine (spec_l00In.calls (a0.size : Int) 1 20 true _ A2.out).mono ?_); rintro e w' ⟨rfl, ⟨nd, rfl⟩⟩; refine ⟨_, rfl, ?_⟩) | (go_at_call 64; (with_reducible refine (spec_l01Word.calls k a0 t1053 _ A4.out).mono ?_); rintro e w' ⟨rfl, ⟨nd, rfl⟩⟩))
  go_ret
  exact ⟨by first | rfl | (simp; done) | (simp [*]; done), by repeat (first | exact Drawn0.refl _ | apply Drawn0.step)⟩
 ·replace c3 := Bool.eq_false_iff.mpr c3
  subst c3
  rw [if_neg (show ¬ (false = true) by decide)] at H
  have H1 := H
  clear H
  have H := H1
  clear H1
  obtain rfl := Option.some.inj H
  go_enter Tryd.func154, Tryd.ntmps154
  go_wp2_with (first | ((with_reducible refine gate_callee (f := 84) rfl ?_); refine goesL_ (some 5) rfl rfl Tryd.func84 (by kernel_rfl) rfl #[.int .i64 (a0.size : Int), .int .i64 1, .int .i64 20] rfl (by (try simp only [List.map_toArray, List.map_cons, List.map_nil]); first | done | rfl | (simp only [List.length_drop, List.length_take]; rfl)) ?_; (with_reducible refine (spec_l00In.calls (a0.size : Int) 1 20 false _ A2.out).mono ?_); rintro e w' ⟨rfl, ⟨nd, rfl⟩⟩; refine ⟨_, rfl, ?_⟩))
  go_ret
  exact ⟨by first | rfl | (simp; done) | (simp [*]; done), by repeat (first | exact Drawn0.refl _ | apply Drawn0.step)⟩
def spec_l04List.l0 : Nat → List ByteArray → Int → Option (Bool)
 | 0, _, _ => none
 | k + 1, x0, x3 => if x3 < (x0.length : Int) then (if 0 ≤ x3 then ((spec_l04Word.f k (rdOf ByteArray.empty x0 x3)).bind fun t1055 => (if t1055 = true then (spec_l04List.l0 k x0 (wrap64 (x3 + 1))) else (some false))) else (none)) else (some (decide ((x0.length : Int) ≤ 12)))
def spec_l04List.f (k : Nat) (l0 : List ByteArray) : Option (Bool) := spec_l04List.l0 k l0 0
set_option maxHeartbeats 8000000 in
set_option maxRecDepth 100000 in
theorem spec_l04List.calls (k : Nat) (A0 : Option Addr) (c0 : Nat) (l0 : List ByteArray) (r : Bool) (w : World) (hr0 : Kd.C Kd.string w A0 l0.length l0) (hc0 : l0.length ≤ c0) (h : spec_l04List.f k l0 = some r) :
  Calls Tryd.prog 131 #[.slice A0 l0.length c0] w fun e w' => e = .returned (.bool r) ∧ Drawn0 w w' := by
 have HR0 := Aside0.mk hr0
 have HC0 := Aside0.mk hc0
 clear hr0 hc0
 have H : (spec_l04List.l0 k l0 0) = some r := h
 clear h
 have H' := Aside0.mk H
 clear H
 go_enter Tryd.func131, Tryd.ntmps131
 go_wp2
 go_loopg [3] k (fun kq v3 w' => ∃ (x3_1 : Int), v3 = .int .i64 x3_1 ∧ Aside0 (spec_l04List.l0 kq l0 x3_1 = some r) ∧ Aside0 (kq ≤ k) ∧ Drawn0 w w')
 case atStart => exact ⟨(0), (by first | rfl | (simp; done) | (simp [*]; done)), H', ⟨Nat.le_refl _⟩, by repeat (first | exact Drawn0.refl _ | apply Drawn0.step)⟩
 case round =>
  clear H'
  try clear c1
  obtain ⟨x3_1, rfl, HA, HK1, ⟨m1, rfl⟩⟩ := hrel
  cases gk with
  | zero => exact absurd HA.out (by simp [spec_l04List.l0])
  | succ k1 =>
   have H := HA.out
   clear HA
   simp only [spec_l04List.l0] at H
   by_cases c2 : x3_1 < (l0.length : Int)
   ·rw [if_pos c2] at H
    have c2b0 : decide (x3_1 < (l0.length : Int)) = true := decide_eq_true c2
    clear c2
    by_cases c3 : 0 ≤ x3_1
    ·rw [if_pos c3] at H
     have c3b0 : decide (0 ≤ x3_1) = true := decide_eq_true c3
     clear c3
     replace H := Option.bind_eq_some_iff.mp H
     obtain ⟨t1055, A40, H⟩ := H
     (try dsimp only at H)
     have A4 := Aside0.mk A40
     clear A40
     by_cases c5 : t1055 = true
     ·subst c5
      rw [if_pos rfl] at H
      have H1 := H
      clear H
      have H := H1
      clear H1
      have H' := Aside0.mk H
      clear H
      have p1054 : 0 ≤ (x3_1 : Int) := of_decide_eq_true (by first | (with_reducible assumption) | assumption)
      have q1054 : x3_1 < (l0.length : Int) := of_decide_eq_true (by first | (with_reducible assumption) | assumption)
      obtain ⟨ad1054, e1054, hx1054_0⟩ := Kd.at_string HR0.out x3_1 p1054 q1054
      cases e1054
      replace p1054 := eq_true p1054
      replace q1054 := eq_true q1054
      go_wp2_with (first | ((with_reducible refine gate_callee (f := 154) rfl ?_); refine goesL_ (some 14) rfl rfl Tryd.func154 (by kernel_rfl) rfl #[.string (rdOf ByteArray.empty l0 x3_1)] rfl (by (try simp only [List.map_toArray, List.map_cons, List.map_nil]); first | done | rfl | (simp only [List.length_drop, List.length_take]; rfl)) ?_; (with_reducible refine (spec_l04Word.calls k1 (rdOf ByteArray.empty l0 x3_1) true _ A4.out).mono ?_); rintro e w' ⟨rfl, ⟨nd, rfl⟩⟩; refine ⟨_, rfl, ?_⟩))
      go_roundg k1
      case measure => have := HK1.out; omega
      case rel => exact ⟨(wrap64 (x3_1 + 1)), (by first | rfl | (simp; done) | (simp [*]; done)), H', ⟨by have := HK1.out; omega⟩, by repeat (first | exact Drawn0.refl _ | apply Drawn0.step)⟩
     ·replace c5 := Bool.eq_false_iff.mpr c5
      subst c5
      rw [if_neg (show ¬ (false = true) by decide)] at H
      have H1 := H
      clear H
      have H := H1
      clear H1
      obtain rfl := Option.some.inj H
      have p1054 : 0 ≤ (x3_1 : Int) := of_decide_eq_true (by first | (with_reducible assumption) | assumption)
      have q1054 : x3_1 < (l0.length : Int) := of_decide_eq_true (by first | (with_reducible assumption) | assumption)
      obtain ⟨ad1054, e1054, hx1054_0⟩ := Kd.at_string HR0.out x3_1 p1054 q1054
      cases e1054
      replace p1054 := eq_true p1054
      replace q1054 := eq_true q1054
      go_wp2_with (first | ((with_reducible refine gate_callee (f := 154) rfl ?_); refine goesL_ (some 14) rfl rfl Tryd.func154 (by kernel_rfl) rfl #[.string (rdOf ByteArray.empty l0 x3_1)] rfl (by (try simp only [List.map_toArray, List.map_cons, List.map_nil]); first | done | rfl | (simp only [List.length_drop, List.length_take]; rfl)) ?_; (with_reducible refine (spec_l04Word.calls k1 (rdOf ByteArray.empty l0 x3_1) false _ A4.out).mono ?_); rintro e w' ⟨rfl, ⟨nd, rfl⟩⟩; refine ⟨_, rfl, ?_⟩))
      go_ret
      exact ⟨by first | rfl | (simp; done) | (simp [*]; done), by repeat (first | exact Drawn0.refl _ | apply Drawn0.step)⟩
    ·rw [if_neg c3] at H
     exact absurd H (by simp)
   ·rw [if_neg c2] at H
    have c2b0 : decide (x3_1 < (l0.length : Int)) = false := decide_eq_false c2
    clear c2
    obtain rfl := Option.some.inj H
    go_wp2
    go_ret
    exact ⟨by first | rfl | (simp; done) | (simp [*]; done), by repeat (first | exact Drawn0.refl _ | apply Drawn0.step)⟩
def spec_l04Part.l0 : Nat → ByteArray → Int → Option (Bool)
 | 0, _, _ => none
 | k + 1, x0, x3 => if x3 < (x0.size : Int) then (if 0 ≤ x3 then (if (bt x0 x3) = 32 then (if x3 > 0 then (if 0 ≤ (wrap64 (x3 - 1)) then (if (wrap64 (x3 - 1)) < (x0.size : Int) then (if (bt x0 (wrap64 (x3 - 1))) = 32 then (some false) else (spec_l04Part.l0 k x0 (wrap64 (x3 + 1)))) else (none)) else (none)) else (spec_l04Part.l0 k x0 (wrap64 (x3 + 1)))) else ((spec_l01Letter.f (bt x0 x3)).bind fun t1056 => (if t1056 = true then (if x3 > 0 then (spec_l04Part.l0 k x0 (wrap64 (x3 + 1))) else (spec_l04Part.l0 k x0 (wrap64 (x3 + 1)))) else (some false)))) else (none)) else (some true)
def spec_l04Part.f (k : Nat) (a0 : ByteArray) : Option (Bool) := spec_l04Part.l0 k a0 0
set_option maxHeartbeats 8000000 in
set_option maxRecDepth 100000 in
theorem spec_l04Part.calls (k : Nat) (a0 : ByteArray) (r : Bool) (w : World) (h : spec_l04Part.f k a0 = some r) :
  Calls Tryd.prog 132 #[.string a0] w fun e w' => e = .returned (.bool r) ∧ Drawn0 w w' := by
 have H : (spec_l04Part.l0 k a0 0) = some r := h
 clear h
 have H' := Aside0.mk H
 clear H
 go_enter Tryd.func132, Tryd.ntmps132
 go_wp2
 go_loopg [3] k (fun kq v3 w' => ∃ (x3_1 : Int), v3 = .int .i64 x3_1 ∧ Aside0 (spec_l04Part.l0 kq a0 x3_1 = some r) ∧ Aside0 (kq ≤ k) ∧ Drawn0 w w')
 case atStart => exact ⟨(0), (by first | rfl | (simp; done) | (simp [*]; done)), H', ⟨Nat.le_refl _⟩, by repeat (first | exact Drawn0.refl _ | apply Drawn0.step)⟩
 case round =>
  clear H'
  try clear c1
  obtain ⟨x3_1, rfl, HA, HK1, ⟨m1, rfl⟩⟩ := hrel
  cases gk with
  | zero => exact absurd HA.out (by simp [spec_l04Part.l0])
  | succ k1 =>
   have H := HA.out
   clear HA
   simp only [spec_l04Part.l0] at H
   by_cases c2 : x3_1 < (a0.size : Int)
   ·rw [if_pos c2] at H
    have c2b0 : decide (x3_1 < (a0.size : Int)) = true := decide_eq_true c2
    clear c2
    by_cases c3 : 0 ≤ x3_1
    ·rw [if_pos c3] at H
     have c3b0 : decide (0 ≤ x3_1) = true := decide_eq_true c3
     clear c3
     by_cases c5 : (bt a0 x3_1) = 32
     ·rw [if_pos c5] at H
      have c5b0 : ((bt a0 x3_1) == 32) = true := beq_iff_eq.mpr c5
      have c5b1 : ((bt a0 x3_1) != 32) = false := bne_eq_false_iff_eq.mpr c5
      clear c5
      by_cases c6 : x3_1 > 0
      ·rw [if_pos c6] at H
       have c6b0 : decide (0 < x3_1) = true := decide_eq_true c6
       clear c6
       obtain ⟨ji8, hji8⟩ : ∃ j_ : Int, (wrap64 (x3_1 - 1)) = j_ := ⟨_, rfl⟩
       replace H : (if 0 ≤ (ji8) then (if (ji8) < (a0.size : Int) then (if (bt a0 (ji8)) = 32 then (some false) else (spec_l04Part.l0 k1 a0 (wrap64 (x3_1 + 1)))) else (none)) else (none)) = some r := by first | (rw [hji8] at H; exact H) | (simp only [hji8] at H ⊢; exact H)
       have hji8w : (IntKind.i64.wrap (x3_1 - 1)) = ji8 := (i64_w _).trans hji8
       by_cases c9 : 0 ≤ (ji8)
       ·rw [if_pos c9] at H
        have c9b0 : decide (0 ≤ (ji8)) = true := decide_eq_true c9
        clear c9
        by_cases c10 : (ji8) < (a0.size : Int)
        ·rw [if_pos c10] at H
         have c10b0 : decide ((ji8) < (a0.size : Int)) = true := decide_eq_true c10
         clear c10
         by_cases c12 : (bt a0 (ji8)) = 32
         ·rw [if_pos c12] at H
          have c12b0 : ((bt a0 (ji8)) == 32) = true := beq_iff_eq.mpr c12
          have c12b1 : ((bt a0 (ji8)) != 32) = false := bne_eq_false_iff_eq.mpr c12
          clear c12
          obtain rfl := Option.some.inj H
          have p4 : 0 ≤ (x3_1 : Int) := of_decide_eq_true (by first | (with_reducible assumption) | assumption)
          have q4 : x3_1 < (a0.size : Int) := of_decide_eq_true (by first | (with_reducible assumption) | assumption)
          have hx4 := bt_at a0 x3_1
          replace p4 := eq_true p4
          replace q4 := eq_true q4
          have p7 : 0 ≤ (x3_1 : Int) := of_decide_eq_true (by first | (with_reducible assumption) | assumption)
          have q7 : x3_1 < (a0.size : Int) := of_decide_eq_true (by first | (with_reducible assumption) | assumption)
          have hx7 := bt_at a0 x3_1
          replace p7 := eq_true p7
          replace q7 := eq_true q7
          have p11 : 0 ≤ ((ji8) : Int) := of_decide_eq_true (by first | (with_reducible assumption) | assumption)
          have q11 : (ji8) < (a0.size : Int) := of_decide_eq_true (by first | (with_reducible assumption) | assumption)
          have hx11 := bt_at a0 (ji8)
          replace p11 := eq_true p11
          replace q11 := eq_true q11
          go_wp2
          go_ret
          exact ⟨by first | rfl | (simp; done) | (simp only [← hji8] <;> (first | rfl | simp)) | (simp [*]; done), by repeat (first | exact Drawn0.refl _ | apply Drawn0.step)⟩
         ·rw [if_neg c12] at H
          have c12b0 : ((bt a0 (ji8)) == 32) = false := beq_eq_false_iff_ne.mpr c12
          have c12b1 : ((bt a0 (ji8)) != 32) = true := bne_iff_ne.mpr c12
          have H' := Aside0.mk H
          clear H
          have p4 : 0 ≤ (x3_1 : Int) := of_decide_eq_true (by first | (with_reducible assumption) | assumption)
          have q4 : x3_1 < (a0.size : Int) := of_decide_eq_true (by first | (with_reducible assumption) | assumption)
          have hx4 := bt_at a0 x3_1
          replace p4 := eq_true p4
          replace q4 := eq_true q4
          have p7 : 0 ≤ (x3_1 : Int) := of_decide_eq_true (by first | (with_reducible assumption) | assumption)
          have q7 : x3_1 < (a0.size : Int) := of_decide_eq_true (by first | (with_reducible assumption) | assumption)
          have hx7 := bt_at a0 x3_1
          replace p7 := eq_true p7
          replace q7 := eq_true q7
          have p11 : 0 ≤ ((ji8) : Int) := of_decide_eq_true (by first | (with_reducible assumption) | assumption)
          have q11 : (ji8) < (a0.size : Int) := of_decide_eq_true (by first | (with_reducible assumption) | assumption)
          have hx11 := bt_at a0 (ji8)
          replace p11 := eq_true p11
          replace q11 := eq_true q11
          go_wp2
          go_roundg k1
          case measure => have := HK1.out; omega
          case rel => exact ⟨(wrap64 (x3_1 + 1)), (by first | rfl | (simp; done) | (simp [*]; done)), H', ⟨by have := HK1.out; omega⟩, by repeat (first | exact Drawn0.refl _ | apply Drawn0.step)⟩
        ·rw [if_neg c10] at H
         exact absurd H (by simp)
       ·rw [if_neg c9] at H
        exact absurd H (by simp)
      ·rw [if_neg c6] at H
       have c6b0 : decide (0 < x3_1) = false := decide_eq_false c6
       clear c6
       have H' := Aside0.mk H
       clear H
       have p4 : 0 ≤ (x3_1 : Int) := of_decide_eq_true (by first | (with_reducible assumption) | assumption)
       have q4 : x3_1 < (a0.size : Int) := of_decide_eq_true (by first | (with_reducible assumption) | assumption)
       have hx4 := bt_at a0 x3_1
       replace p4 := eq_true p4
       replace q4 := eq_true q4
       go_wp2
       go_roundg k1
       case measure => have := HK1.out; omega
       case rel => exact ⟨(wrap64 (x3_1 + 1)), (by first | rfl | (simp; done) | (simp [*]; done)), H', ⟨by have := HK1.out; omega⟩, by repeat (first | exact Drawn0.refl _ | apply Drawn0.step)⟩
     ·rw [if_neg c5] at H
      have c5b0 : ((bt a0 x3_1) == 32) = false := beq_eq_false_iff_ne.mpr c5
      have c5b1 : ((bt a0 x3_1) != 32) = true := bne_iff_ne.mpr c5
      replace H := Option.bind_eq_some_iff.mp H
      obtain ⟨t1056, A140, H⟩ := H
      (try dsimp only at H)
      have A14 := Aside0.mk A140
      clear A140
      by_cases c15 : t1056 = true
      ·subst c15
       rw [if_pos rfl] at H
       have H1 := H
       clear H
       have H := H1
       clear H1
       by_cases c16 : x3_1 > 0
       ·rw [if_pos c16] at H
        have c16b0 : decide (0 < x3_1) = true := decide_eq_true c16
        clear c16
        have H' := Aside0.mk H
        clear H
        have p4 : 0 ≤ (x3_1 : Int) := of_decide_eq_true (by first | (with_reducible assumption) | assumption)
        have q4 : x3_1 < (a0.size : Int) := of_decide_eq_true (by first | (with_reducible assumption) | assumption)
        have hx4 := bt_at a0 x3_1
        replace p4 := eq_true p4
        replace q4 := eq_true q4
        have p13 : 0 ≤ (x3_1 : Int) := of_decide_eq_true (by first | (with_reducible assumption) | assumption)
        have q13 : x3_1 < (a0.size : Int) := of_decide_eq_true (by first | (with_reducible assumption) | assumption)
        have hx13 := bt_at a0 x3_1
        replace p13 := eq_true p13
        replace q13 := eq_true q13
        go_wp2_with (first | (go_at_call 118; (with_reducible refine (spec_l01Letter.calls (bt a0 x3_1) true _ A14.out).mono ?_); rintro e w' ⟨rfl, ⟨nd, rfl⟩⟩; have p17 : 0 ≤ (x3_1 : Int) := of_decide_eq_true (by first | (with_reducible assumption) | assumption); have q17 : x3_1 < (a0.size : Int) := of_decide_eq_true (by first | (with_reducible assumption) | assumption); have hx17 := bt_at a0 x3_1; replace p17 := eq_true p17; replace q17 := eq_true q17))
        go_roundg k1
        case measure => have := HK1.out; omega
        case rel => exact ⟨(wrap64 (x3_1 + 1)), (by first | rfl | (simp; done) | (simp [*]; done)), H', ⟨by have := HK1.out; omega⟩, by repeat (first | exact Drawn0.refl _ | apply Drawn0.step)⟩
       ·rw [if_neg c16] at H
        have c16b0 : decide (0 < x3_1) = false := decide_eq_false c16
        clear c16
        have H' := Aside0.mk H
        clear H
        have p4 : 0 ≤ (x3_1 : Int) := of_decide_eq_true (by first | (with_reducible assumption) | assumption)
        have q4 : x3_1 < (a0.size : Int) := of_decide_eq_true (by first | (with_reducible assumption) | assumption)
        have hx4 := bt_at a0 x3_1
        replace p4 := eq_true p4
        replace q4 := eq_true q4
        have p13 : 0 ≤ (x3_1 : Int) := of_decide_eq_true (by first | (with_reducible assumption) | assumption)
        have q13 : x3_1 < (a0.size : Int) := of_decide_eq_true (by first | (with_reducible assumption) | assumption)
        have hx13 := bt_at a0 x3_1
        replace p13 := eq_true p13
        replace q13 := eq_true q13
        go_wp2_with (first | (go_at_call 118; (with_reducible refine (spec_l01Letter.calls (bt a0 x3_1) true _ A14.out).mono ?_); rintro e w' ⟨rfl, ⟨nd, rfl⟩⟩))
        go_roundg k1
        case measure => have := HK1.out; omega
        case rel => exact ⟨(wrap64 (x3_1 + 1)), (by first | rfl | (simp; done) | (simp [*]; done)), H', ⟨by have := HK1.out; omega⟩, by repeat (first | exact Drawn0.refl _ | apply Drawn0.step)⟩
      ·replace c15 := Bool.eq_false_iff.mpr c15
       subst c15
       rw [if_neg (show ¬ (false = true) by decide)] at H
       have H1 := H
       clear H
       have H := H1
       clear H1
       obtain rfl := Option.some.inj H
       have p4 : 0 ≤ (x3_1 : Int) := of_decide_eq_true (by first | (with_reducible assumption) | assumption)
       have q4 : x3_1 < (a0.size : Int) := of_decide_eq_true (by first | (with_reducible assumption) | assumption)
       have hx4 := bt_at a0 x3_1
       replace p4 := eq_true p4
       replace q4 := eq_true q4
       have p13 : 0 ≤ (x3_1 : Int) := of_decide_eq_true (by first | (with_reducible assumption) | assumption)
       have q13 : x3_1 < (a0.size : Int) := of_decide_eq_true (by first | (with_reducible assumption) | assumption)
       have hx13 := bt_at a0 x3_1
       replace p13 := eq_true p13
       replace q13 := eq_true q13
       go_wp2_with (first | (go_at_call 118; (with_reducible refine (spec_l01Letter.calls (bt a0 x3_1) false _ A14.out).mono ?_); rintro e w' ⟨rfl, ⟨nd, rfl⟩⟩))
       go_ret
       exact ⟨by first | rfl | (simp; done) | (simp [*]; done), by repeat (first | exact Drawn0.refl _ | apply Drawn0.step)⟩
    ·rw [if_neg c3] at H
     exact absurd H (by simp)
   ·rw [if_neg c2] at H
    have c2b0 : decide (x3_1 < (a0.size : Int)) = false := decide_eq_false c2
    clear c2
    obtain rfl := Option.some.inj H
    go_wp2
    go_ret
    exact ⟨by first | rfl | (simp; done) | (simp [*]; done), by repeat (first | exact Drawn0.refl _ | apply Drawn0.step)⟩
end Go.Proofs.YticjkfacdmmopaaDoor.Q
namespace Go.Proofs.YticjkfacdmmopaaDoor.Ext
end Go.Proofs.YticjkfacdmmopaaDoor.Ext
namespace Go.Proofs.YticjkfacdmmopaaDoor.Q
open Go.Proofs.YticjkfacdmmopaaDoor.Ext
open Go.RowKit Go.Proofs.YticjkfacdmmopaaDoorW.PrintWords Go.Proofs.YticjkfacdmmopaaDoorW.PrintLast Go.Proofs.YticjkfacdmmopaaDoorW.PrintMore
attribute [local go_sem] max2_int min2_int max_two min_two max_three min_three max_four min_four
set_option linter.unusedVariables false
set_option linter.unusedSimpArgs false
mutual
def spec_l04Asked.j0 : Nat → ByteArray → ByteArray → Int → Int → Bool → Option (Int)
 | 0, _, _, _, _, _ => none
 | k + 1, x1, x2, x4, x5, x20 => if x20 = true then (some 1) else ((spec_l01Room.f x4).bind fun t1059 => (if t1059 = true then ((spec_l00In.f x5 0 100).bind fun t1060 => (spec_l04Asked.j1 k x1 x2 (!t1060))) else (spec_l04Asked.j1 k x1 x2 true)))
def spec_l04Asked.j1 : Nat → ByteArray → ByteArray → Bool → Option (Int)
 | 0, _, _, _ => none
 | k + 1, x1, x2, x28 => if x28 = true then (some 2) else ((spec_l04Part.f k x1).bind fun t1061 => (if t1061 = true then ((spec_l04Part.f k x2).bind fun t1062 => (if t1062 = true then (some 0) else (some 5))) else (some 5)))
end
def spec_l04Asked.f (k : Nat) (G0 G1 G2 G3 G4 G5 G6 G7 G8 G9 G10 G11 G12 G13 G14 G15 G16 G17 G18 G19 G20 G21 G22 G23 G24 G25 G26 G27 : Int) (G28 : List (S137)) (a1 : ByteArray) (a2 : ByteArray) (l3 : List ByteArray) (a4 : Int) (a5 : Int) : Option (Int) := (spec_l01Face.f G0 G1 G2 G3 G4 G5 G6 G7 G8 G9 G10 G11 G12 G13 G14 G15 G16 G17 G18 G19 G20 G21 G22 G23 G24 G25 G26 G27 G28).bind fun t1057 => (if t1057 = true then ((spec_l04List.f k l3).bind fun t1058 => (spec_l04Asked.j0 k a1 a2 a4 a5 (!t1058))) else (spec_l04Asked.j0 k a1 a2 a4 a5 true))
set_option maxHeartbeats 8000000 in
set_option maxRecDepth 100000 in
theorem spec_l04Asked.calls (k : Nat) (g : Nat) (G0 G1 G2 G3 G4 G5 G6 G7 G8 G9 G10 G11 G12 G13 G14 G15 G16 G17 G18 G19 G20 G21 G22 G23 G24 G25 G26 G27 : Int) (G28 : List (S137)) (a1 : ByteArray) (a2 : ByteArray) (A3 : Option Addr) (c3 : Nat) (l3 : List ByteArray) (a4 a5 r : Int) (w0 w : World) (hI : IsS32 w0 w g G0 G1 G2 G3 G4 G5 G6 G7 G8 G9 G10 G11 G12 G13 G14 G15 G16 G17 G18 G19 G20 G21 G22 G23 G24 G25 G26 G27 G28) (hB : Below w0.heap.size w0 w) (hr3 : Kd.C Kd.string w A3 l3.length l3) (hc3 : l3.length ≤ c3) (hf3 : ∀ ad, A3 = some ad → 0 < l3.length → ad.block ≠ g) (h : spec_l04Asked.f k G0 G1 G2 G3 G4 G5 G6 G7 G8 G9 G10 G11 G12 G13 G14 G15 G16 G17 G18 G19 G20 G21 G22 G23 G24 G25 G26 G27 G28 a1 a2 l3 a4 a5 = some r) :
  Calls Tryd.prog 88 #[.pointer (some ⟨g, 0, none⟩), .string a1, .string a2, .slice A3 l3.length c3, .int .i64 a4, .int .i64 a5] w fun e w' => e = .returned (.int .i64 r) ∧ IsS32 w0 w' g G0 G1 G2 G3 G4 G5 G6 G7 G8 G9 G10 G11 G12 G13 G14 G15 G16 G17 G18 G19 G20 G21 G22 G23 G24 G25 G26 G27 G28 ∧ Below w0.heap.size w0 w' ∧ KeepBut w w' g none := by
 have HR3 := Aside0.mk hr3
 have HC3 := Aside0.mk hc3
 clear hr3 hc3
 have HI0 := Aside0.mk hI
 have HK := Aside0.mk (KeepBut.refl w g none)
 have HL := Aside0.mk hB.size
 clear hI
 have HW0 := Aside0.mk hB.size
 have HB := Aside0.mk hB
 clear hB
 have H : ((spec_l01Face.f G0 G1 G2 G3 G4 G5 G6 G7 G8 G9 G10 G11 G12 G13 G14 G15 G16 G17 G18 G19 G20 G21 G22 G23 G24 G25 G26 G27 G28).bind fun t1057 => (if t1057 = true then ((spec_l04List.f k l3).bind fun t1058 => (spec_l04Asked.j0 k a1 a2 a4 a5 (!t1058))) else (spec_l04Asked.j0 k a1 a2 a4 a5 true))) = some r := h
 clear h
 have HC7 := Aside0.mk H
 clear H
 go_enter Tryd.func88, Tryd.ntmps88
 go_upto_region 1 with (fail)
 go_cut [20] (fun v20 wc => ∃ (kq : Nat) (x20_6 : Bool), v20 = .bool x20_6 ∧ Aside0 (spec_l04Asked.j0 kq a1 a2 a4 a5 x20_6 = some r) ∧ Aside0 (kq ≤ k) ∧ Aside0 (IsS32 w0 wc g G0 G1 G2 G3 G4 G5 G6 G7 G8 G9 G10 G11 G12 G13 G14 G15 G16 G17 G18 G19 G20 G21 G22 G23 G24 G25 G26 G27 G28) ∧ Aside0 (KeepBut w wc g none) ∧ Aside0 (Below w0.heap.size w0 wc))
 case first =>
  have H := HC7.out
  clear HC7
  replace H := Option.bind_eq_some_iff.mp H
  obtain ⟨t1057, A80, H⟩ := H
  (try dsimp only at H)
  have A8 := Aside0.mk A80
  clear A80
  by_cases c9 : t1057 = true
  ·subst c9
   rw [if_pos rfl] at H
   have H1 := H
   clear H
   have H := H1
   clear H1
   replace H := Option.bind_eq_some_iff.mp H
   obtain ⟨t1058, A100, H⟩ := H
   (try dsimp only at H)
   have A10 := Aside0.mk A100
   clear A100
   have H' := Aside0.mk H
   clear H
   go_wp2_with (first | ((with_reducible refine gate_callee (f := 62) rfl ?_); refine goesL_ (some 14) rfl rfl Tryd.func62 (by kernel_rfl) rfl #[.pointer (some ⟨g, 0, none⟩)] rfl (by (try simp only [List.map_toArray, List.map_cons, List.map_nil]); first | done | rfl | (simp only [List.length_drop, List.length_take]; rfl)) ?_; (with_reducible refine (spec_l01Face.calls g G0 G1 G2 G3 G4 G5 G6 G7 G8 G9 G10 G11 G12 G13 G14 G15 G16 G17 G18 G19 G20 G21 G22 G23 G24 G25 G26 G27 G28 true w0 _ ?side1 ?side2 A8.out).mono ?_); (case side1 => repeat (first | (with_reducible first | exact HI0.out | apply IsS32.alloc | apply IsS32.drewN | apply IsS32.drew) | exact HI0.out)); (case side2 => repeat (first | (with_reducible first | exact HB.out | apply bwA | apply pwN | apply bw1 | refine below_set ?_ (IsS32.ge HI0.out)) | exact HB.out)); rintro e w11 ⟨rfl, hi, hb, hk⟩; refine ⟨_, rfl, ?_⟩; have n0_ := Aside0.mk (KeepBut.trans (by repeat (first | (with_reducible first | exact HK.out | apply KeepBut.set_ | apply keep_drewN | apply keep_drew | apply keep_alloc) | exact HK.out)) hk (.inl rfl)); have n1_ := Aside0.mk (hb); have n2_ := Aside0.mk (hi); clear HK; clear HB; clear HI0; have HK := n0_; have HB := n1_; have HI0 := n2_; clear n0_ n1_ n2_; (try clear hb); (try clear hb2); (try clear hk); (try clear hi)) | (go_at_call 131; (with_reducible refine (spec_l04List.calls k _ _ l3 t1058 _ ?side1 ?side2 A10.out).mono ?_); (case side1 => exact Kd.C_keep (⟨#[]⟩ : ByteArray) HR3.out (by repeat (first | (with_reducible first | exact HK.out | apply KeepBut.set_ | apply keep_drewN | apply keep_drew | apply keep_alloc) | exact HK.out)) hf3); (case side2 => exact HC3.out); rintro e w' ⟨rfl, ⟨nd, rfl⟩⟩))
   go_meet
   case rel => exact ⟨_, (!t1058), (by first | rfl | (simp; done) | (simp [*]; done)), H', ⟨by first | omega | exact Nat.le_refl _⟩, ⟨by repeat (first | (with_reducible first | exact HI0.out | apply IsS32.alloc | apply IsS32.drewN | apply IsS32.drew) | exact HI0.out)⟩, ⟨by repeat (first | (with_reducible first | exact HK.out | apply KeepBut.set_ | apply keep_drewN | apply keep_drew | apply keep_alloc) | exact HK.out)⟩, ⟨by repeat (first | (with_reducible first | exact HB.out | apply bwA | apply pwN | apply bw1 | refine below_set ?_ (IsS32.ge HI0.out)) | exact HB.out)⟩⟩
  ·replace c9 := Bool.eq_false_iff.mpr c9
   subst c9
   rw [if_neg (show ¬ (false = true) by decide)] at H
   have H1 := H
   clear H
   have H := H1
   clear H1
   have H' := Aside0.mk H
   clear H
   go_wp2_with (first | ((with_reducible refine gate_callee (f := 62) rfl ?_); refine goesL_ (some 14) rfl rfl Tryd.func62 (by kernel_rfl) rfl #[.pointer (some ⟨g, 0, none⟩)] rfl (by (try simp only [List.map_toArray, List.map_cons, List.map_nil]); first | done | rfl | (simp only [List.length_drop, List.length_take]; rfl)) ?_; (with_reducible refine (spec_l01Face.calls g G0 G1 G2 G3 G4 G5 G6 G7 G8 G9 G10 G11 G12 G13 G14 G15 G16 G17 G18 G19 G20 G21 G22 G23 G24 G25 G26 G27 G28 false w0 _ ?side1 ?side2 A8.out).mono ?_); (case side1 => repeat (first | (with_reducible first | exact HI0.out | apply IsS32.alloc | apply IsS32.drewN | apply IsS32.drew) | exact HI0.out)); (case side2 => repeat (first | (with_reducible first | exact HB.out | apply bwA | apply pwN | apply bw1 | refine below_set ?_ (IsS32.ge HI0.out)) | exact HB.out)); rintro e w12 ⟨rfl, hi, hb, hk⟩; refine ⟨_, rfl, ?_⟩; have n0_ := Aside0.mk (KeepBut.trans (by repeat (first | (with_reducible first | exact HK.out | apply KeepBut.set_ | apply keep_drewN | apply keep_drew | apply keep_alloc) | exact HK.out)) hk (.inl rfl)); have n1_ := Aside0.mk (hb); have n2_ := Aside0.mk (hi); clear HK; clear HB; clear HI0; have HK := n0_; have HB := n1_; have HI0 := n2_; clear n0_ n1_ n2_; (try clear hb); (try clear hb2); (try clear hk); (try clear hi)))
   go_meet
   case rel => exact ⟨_, (true), (by first | rfl | (simp; done) | (simp [*]; done)), H', ⟨by first | omega | exact Nat.le_refl _⟩, ⟨by repeat (first | (with_reducible first | exact HI0.out | apply IsS32.alloc | apply IsS32.drewN | apply IsS32.drew) | exact HI0.out)⟩, ⟨by repeat (first | (with_reducible first | exact HK.out | apply KeepBut.set_ | apply keep_drewN | apply keep_drew | apply keep_alloc) | exact HK.out)⟩, ⟨by repeat (first | (with_reducible first | exact HB.out | apply bwA | apply pwN | apply bw1 | refine below_set ?_ (IsS32.ge HI0.out)) | exact HB.out)⟩⟩
 case rest =>
  clear HC7
  try clear p2
  try clear c3
  try clear c6
  try clear c8
  try clear c9
  obtain ⟨kq, x20_6, rfl, HA, HJ6, HI0, HK, HB⟩ := hcut
  cases kq with
  | zero => exact absurd HA.out (by simp [spec_l04Asked.j0])
  | succ kj6 =>
   have H := HA.out
   clear HA
   simp only [spec_l04Asked.j0] at H
   by_cases c13 : x20_6 = true
   ·subst c13
    rw [if_pos rfl] at H
    have H1 := H
    clear H
    have H := H1
    clear H1
    obtain rfl := Option.some.inj H
    go_wp2
    go_ret
    exact ⟨by first | rfl | (simp [errW_none, errW_some] <;> rfl) | (simp [*, errW_none, errW_some] <;> rfl), by repeat (first | (with_reducible first | exact HI0.out | apply IsS32.alloc | apply IsS32.drewN | apply IsS32.drew) | exact HI0.out), by repeat (first | (with_reducible first | exact HB.out | apply bwA | apply pwN | apply bw1 | refine below_set ?_ (IsS32.ge HI0.out)) | exact HB.out), by repeat (first | (with_reducible first | exact HK.out | apply KeepBut.set_ | apply keep_drewN | apply keep_drew | apply keep_alloc) | exact HK.out)⟩
   ·replace c13 := Bool.eq_false_iff.mpr c13
    subst c13
    rw [if_neg (show ¬ (false = true) by decide)] at H
    have H1 := H
    clear H
    have H := H1
    clear H1
    have HC14 := Aside0.mk H
    clear H
    go_upto_region 3 with (fail)
    go_cut [28] (fun v28 wc => ∃ (kq : Nat) (x28_13 : Bool), v28 = .bool x28_13 ∧ Aside0 (spec_l04Asked.j1 kq a1 a2 x28_13 = some r) ∧ Aside0 (kq ≤ kj6) ∧ Aside0 (IsS32 w0 wc g G0 G1 G2 G3 G4 G5 G6 G7 G8 G9 G10 G11 G12 G13 G14 G15 G16 G17 G18 G19 G20 G21 G22 G23 G24 G25 G26 G27 G28) ∧ Aside0 (KeepBut w wc g none) ∧ Aside0 (Below w0.heap.size w0 wc))
    case first =>
     have H := HC14.out
     clear HC14
     replace H := Option.bind_eq_some_iff.mp H
     obtain ⟨t1059, A150, H⟩ := H
     (try dsimp only at H)
     have A15 := Aside0.mk A150
     clear A150
     by_cases c16 : t1059 = true
     ·subst c16
      rw [if_pos rfl] at H
      have H1 := H
      clear H
      have H := H1
      clear H1
      replace H := Option.bind_eq_some_iff.mp H
      obtain ⟨t1060, A170, H⟩ := H
      (try dsimp only at H)
      have A17 := Aside0.mk A170
      clear A170
      have H' := Aside0.mk H
      clear H
      go_wp2_with (first | ((with_reducible refine gate_callee (f := 77) rfl ?_); refine goesL_ (some 22) rfl rfl Tryd.func77 (by kernel_rfl) rfl #[.int .i64 a4] rfl (by (try simp only [List.map_toArray, List.map_cons, List.map_nil]); first | done | rfl | (simp only [List.length_drop, List.length_take]; rfl)) ?_; (with_reducible refine (spec_l01Room.calls a4 true _ A15.out).mono ?_); rintro e w' ⟨rfl, ⟨nd, rfl⟩⟩; refine ⟨_, rfl, ?_⟩) | (go_at_call 84; (with_reducible refine (spec_l00In.calls a5 0 100 t1060 _ A17.out).mono ?_); rintro e w' ⟨rfl, ⟨nd, rfl⟩⟩))
      go_meet
      case rel => exact ⟨_, (!t1060), (by first | rfl | (simp; done) | (simp [*]; done)), H', ⟨by have := HJ6.out; first | omega | exact Nat.le_refl _⟩, ⟨by repeat (first | (with_reducible first | exact HI0.out | apply IsS32.alloc | apply IsS32.drewN | apply IsS32.drew) | exact HI0.out)⟩, ⟨by repeat (first | (with_reducible first | exact HK.out | apply KeepBut.set_ | apply keep_drewN | apply keep_drew | apply keep_alloc) | exact HK.out)⟩, ⟨by repeat (first | (with_reducible first | exact HB.out | apply bwA | apply pwN | apply bw1 | refine below_set ?_ (IsS32.ge HI0.out)) | exact HB.out)⟩⟩
     ·replace c16 := Bool.eq_false_iff.mpr c16
      subst c16
      rw [if_neg (show ¬ (false = true) by decide)] at H
      have H1 := H
      clear H
      have H := H1
      clear H1
      have H' := Aside0.mk H
      clear H
      go_wp2_with (first | ((with_reducible refine gate_callee (f := 77) rfl ?_); refine goesL_ (some 22) rfl rfl Tryd.func77 (by kernel_rfl) rfl #[.int .i64 a4] rfl (by (try simp only [List.map_toArray, List.map_cons, List.map_nil]); first | done | rfl | (simp only [List.length_drop, List.length_take]; rfl)) ?_; (with_reducible refine (spec_l01Room.calls a4 false _ A15.out).mono ?_); rintro e w' ⟨rfl, ⟨nd, rfl⟩⟩; refine ⟨_, rfl, ?_⟩))
      go_meet
      case rel => exact ⟨_, (true), (by first | rfl | (simp; done) | (simp [*]; done)), H', ⟨by have := HJ6.out; first | omega | exact Nat.le_refl _⟩, ⟨by repeat (first | (with_reducible first | exact HI0.out | apply IsS32.alloc | apply IsS32.drewN | apply IsS32.drew) | exact HI0.out)⟩, ⟨by repeat (first | (with_reducible first | exact HK.out | apply KeepBut.set_ | apply keep_drewN | apply keep_drew | apply keep_alloc) | exact HK.out)⟩, ⟨by repeat (first | (with_reducible first | exact HB.out | apply bwA | apply pwN | apply bw1 | refine below_set ?_ (IsS32.ge HI0.out)) | exact HB.out)⟩⟩
    case rest =>
     clear HC14
     try clear c1
     try clear p2
     try clear c3
     try clear c6
     try clear c7
     try clear c8
     try clear c9
     try clear c13
     try clear c16
     try clear p2
     obtain ⟨kq, x28_13, rfl, HA, HJ13, HI0, HK, HB⟩ := hcut
     cases kq with
     | zero => exact absurd HA.out (by simp [spec_l04Asked.j1])
     | succ kj13 =>
      have H := HA.out
      clear HA
      simp only [spec_l04Asked.j1] at H
      by_cases c18 : x28_13 = true
      ·subst c18
       rw [if_pos rfl] at H
       have H1 := H
       clear H
       have H := H1
       clear H1
       obtain rfl := Option.some.inj H
       go_wp2
       go_ret
       exact ⟨by first | rfl | (simp [errW_none, errW_some] <;> rfl) | (simp [*, errW_none, errW_some] <;> rfl), by repeat (first | (with_reducible first | exact HI0.out | apply IsS32.alloc | apply IsS32.drewN | apply IsS32.drew) | exact HI0.out), by repeat (first | (with_reducible first | exact HB.out | apply bwA | apply pwN | apply bw1 | refine below_set ?_ (IsS32.ge HI0.out)) | exact HB.out), by repeat (first | (with_reducible first | exact HK.out | apply KeepBut.set_ | apply keep_drewN | apply keep_drew | apply keep_alloc) | exact HK.out)⟩
      ·replace c18 := Bool.eq_false_iff.mpr c18
       subst c18
       rw [if_neg (show ¬ (false = true) by decide)] at H
       have H1 := H
       clear H
       have H := H1
       clear H1
       replace H := Option.bind_eq_some_iff.mp H
       obtain ⟨t1061, A190, H⟩ := H
       (try dsimp only at H)
       have A19 := Aside0.mk A190
       clear A190
       by_cases c20 : t1061 = true
       ·subst c20
        rw [if_pos rfl] at H
        have H1 := H
        clear H
        have H := H1
        clear H1
        replace H := Option.bind_eq_some_iff.mp H
        obtain ⟨t1062, A210, H⟩ := H
        (try dsimp only at H)
        have A21 := Aside0.mk A210
        clear A210
        by_cases c22 : t1062 = true
        ·subst c22
         rw [if_pos rfl] at H
         have H1 := H
         clear H
         have H := H1
         clear H1
         obtain rfl := Option.some.inj H
         go_wp2_with (first | ((with_reducible refine gate_callee (f := 132) rfl ?_); refine goesL_ (some 30) rfl rfl Tryd.func132 (by kernel_rfl) rfl #[.string a1] rfl (by (try simp only [List.map_toArray, List.map_cons, List.map_nil]); first | done | rfl | (simp only [List.length_drop, List.length_take]; rfl)) ?_; (with_reducible refine (spec_l04Part.calls kj13 a1 true _ A19.out).mono ?_); rintro e w' ⟨rfl, ⟨nd, rfl⟩⟩; refine ⟨_, rfl, ?_⟩) | (go_at_call 132; (with_reducible refine (spec_l04Part.calls kj13 a2 true _ A21.out).mono ?_); rintro e w' ⟨rfl, ⟨nd, rfl⟩⟩))
         go_ret
         exact ⟨by first | rfl | (simp [errW_none, errW_some] <;> rfl) | (simp [*, errW_none, errW_some] <;> rfl), by repeat (first | (with_reducible first | exact HI0.out | apply IsS32.alloc | apply IsS32.drewN | apply IsS32.drew) | exact HI0.out), by repeat (first | (with_reducible first | exact HB.out | apply bwA | apply pwN | apply bw1 | refine below_set ?_ (IsS32.ge HI0.out)) | exact HB.out), by repeat (first | (with_reducible first | exact HK.out | apply KeepBut.set_ | apply keep_drewN | apply keep_drew | apply keep_alloc) | exact HK.out)⟩
        ·replace c22 := Bool.eq_false_iff.mpr c22
         subst c22
         rw [if_neg (show ¬ (false = true) by decide)] at H
         have H1 := H
         clear H
         have H := H1
         clear H1
         obtain rfl := Option.some.inj H
         go_wp2_with (first | ((with_reducible refine gate_callee (f := 132) rfl ?_); refine goesL_ (some 30) rfl rfl Tryd.func132 (by kernel_rfl) rfl #[.string a1] rfl (by (try simp only [List.map_toArray, List.map_cons, List.map_nil]); first | done | rfl | (simp only [List.length_drop, List.length_take]; rfl)) ?_; (with_reducible refine (spec_l04Part.calls kj13 a1 true _ A19.out).mono ?_); rintro e w' ⟨rfl, ⟨nd, rfl⟩⟩; refine ⟨_, rfl, ?_⟩) | (go_at_call 132; (with_reducible refine (spec_l04Part.calls kj13 a2 false _ A21.out).mono ?_); rintro e w' ⟨rfl, ⟨nd, rfl⟩⟩))
         go_ret
         exact ⟨by first | rfl | (simp [errW_none, errW_some] <;> rfl) | (simp [*, errW_none, errW_some] <;> rfl), by repeat (first | (with_reducible first | exact HI0.out | apply IsS32.alloc | apply IsS32.drewN | apply IsS32.drew) | exact HI0.out), by repeat (first | (with_reducible first | exact HB.out | apply bwA | apply pwN | apply bw1 | refine below_set ?_ (IsS32.ge HI0.out)) | exact HB.out), by repeat (first | (with_reducible first | exact HK.out | apply KeepBut.set_ | apply keep_drewN | apply keep_drew | apply keep_alloc) | exact HK.out)⟩
       ·replace c20 := Bool.eq_false_iff.mpr c20
        subst c20
        rw [if_neg (show ¬ (false = true) by decide)] at H
        have H1 := H
        clear H
        have H := H1
        clear H1
        obtain rfl := Option.some.inj H
        go_wp2_with (first | ((with_reducible refine gate_callee (f := 132) rfl ?_); refine goesL_ (some 30) rfl rfl Tryd.func132 (by kernel_rfl) rfl #[.string a1] rfl (by (try simp only [List.map_toArray, List.map_cons, List.map_nil]); first | done | rfl | (simp only [List.length_drop, List.length_take]; rfl)) ?_; (with_reducible refine (spec_l04Part.calls kj13 a1 false _ A19.out).mono ?_); rintro e w' ⟨rfl, ⟨nd, rfl⟩⟩; refine ⟨_, rfl, ?_⟩))
        go_ret
        exact ⟨by first | rfl | (simp [errW_none, errW_some] <;> rfl) | (simp [*, errW_none, errW_some] <;> rfl), by repeat (first | (with_reducible first | exact HI0.out | apply IsS32.alloc | apply IsS32.drewN | apply IsS32.drew) | exact HI0.out), by repeat (first | (with_reducible first | exact HB.out | apply bwA | apply pwN | apply bw1 | refine below_set ?_ (IsS32.ge HI0.out)) | exact HB.out), by repeat (first | (with_reducible first | exact HK.out | apply KeepBut.set_ | apply keep_drewN | apply keep_drew | apply keep_alloc) | exact HK.out)⟩
def spec_l00Max.f (a0 : Int) (a1 : Int) : Option (Int) := if a0 > a1 then (some a0) else (some a1)
set_option maxHeartbeats 8000000 in
set_option maxRecDepth 100000 in
theorem spec_l00Max.calls (a0 a1 r : Int) (w : World) (h : spec_l00Max.f a0 a1 = some r) :
  Calls Tryd.prog 133 #[.int .i64 a0, .int .i64 a1] w fun e w' => e = .returned (.int .i64 r) ∧ Drawn0 w w' := by
 have H : (if a0 > a1 then (some a0) else (some a1)) = some r := h
 clear h
 by_cases c3 : a0 > a1
 ·rw [if_pos c3] at H
  have c3b0 : decide (a1 < a0) = true := decide_eq_true c3
  clear c3
  obtain rfl := Option.some.inj H
  go_enter Tryd.func133, Tryd.ntmps133
  go_wp2
  go_ret
  exact ⟨by first | rfl | (simp; done) | (simp [*]; done), by repeat (first | exact Drawn0.refl _ | apply Drawn0.step)⟩
 ·rw [if_neg c3] at H
  have c3b0 : decide (a1 < a0) = false := decide_eq_false c3
  clear c3
  obtain rfl := Option.some.inj H
  go_enter Tryd.func133, Tryd.ntmps133
  go_wp2
  go_ret
  exact ⟨by first | rfl | (simp; done) | (simp [*]; done), by repeat (first | exact Drawn0.refl _ | apply Drawn0.step)⟩
def spec_l04Off.f (k : Nat) (G0 G1 G2 G3 G4 G5 G6 G7 G8 G9 G10 G11 G12 G13 G14 G15 G16 G17 G18 G19 G20 G21 G22 G23 G24 G25 G26 G27 : Int) (G28 : List (S137)) (a1 : ByteArray) (a2 : Int) : Option (Int) := (spec_l01Text.f k a1).bind fun t1063 => (if t1063 = true then ((spec_l01Words.f k a1).bind fun t1064 => ((spec_l01Line.f k G0 G1 G2 G3 G4 G5 G6 G7 G8 G9 G10 G11 G12 G13 G14 G15 G16 G17 G18 G19 G20 G21 G22 G23 G24 G25 G26 G27 G28 t1064).bind fun t1067 => ((spec_l00Max.f (wrap64 (t1067 - a2)) (wrap64 (-(wrap64 (t1067 - a2))))).bind fun t1068 => (some t1068)))) else (some (-1)))
set_option maxHeartbeats 8000000 in
set_option maxRecDepth 100000 in
theorem spec_l04Off.calls (k : Nat) (g : Nat) (G0 G1 G2 G3 G4 G5 G6 G7 G8 G9 G10 G11 G12 G13 G14 G15 G16 G17 G18 G19 G20 G21 G22 G23 G24 G25 G26 G27 : Int) (G28 : List (S137)) (a1 : ByteArray) (a2 : Int) (r : Int) (w0 w : World) (hI : IsS32 w0 w g G0 G1 G2 G3 G4 G5 G6 G7 G8 G9 G10 G11 G12 G13 G14 G15 G16 G17 G18 G19 G20 G21 G22 G23 G24 G25 G26 G27 G28) (hB : Below w0.heap.size w0 w) (h : spec_l04Off.f k G0 G1 G2 G3 G4 G5 G6 G7 G8 G9 G10 G11 G12 G13 G14 G15 G16 G17 G18 G19 G20 G21 G22 G23 G24 G25 G26 G27 G28 a1 a2 = some r) :
  Calls Tryd.prog 89 #[.pointer (some ⟨g, 0, none⟩), .string a1, .int .i64 a2] w fun e w' => e = .returned (.int .i64 r) ∧ IsS32 w0 w' g G0 G1 G2 G3 G4 G5 G6 G7 G8 G9 G10 G11 G12 G13 G14 G15 G16 G17 G18 G19 G20 G21 G22 G23 G24 G25 G26 G27 G28 ∧ Below w0.heap.size w0 w' ∧ KeepBut w w' g none := by
 have HI0 := Aside0.mk hI
 have HK := Aside0.mk (KeepBut.refl w g none)
 have HL := Aside0.mk hB.size
 clear hI
 have HW0 := Aside0.mk hB.size
 have HB := Aside0.mk hB
 clear hB
 have H : ((spec_l01Text.f k a1).bind fun t1063 => (if t1063 = true then ((spec_l01Words.f k a1).bind fun t1064 => ((spec_l01Line.f k G0 G1 G2 G3 G4 G5 G6 G7 G8 G9 G10 G11 G12 G13 G14 G15 G16 G17 G18 G19 G20 G21 G22 G23 G24 G25 G26 G27 G28 t1064).bind fun t1067 => ((spec_l00Max.f (wrap64 (t1067 - a2)) (wrap64 (-(wrap64 (t1067 - a2))))).bind fun t1068 => (some t1068)))) else (some (-1)))) = some r := h
 clear h
 replace H := Option.bind_eq_some_iff.mp H
 obtain ⟨t1063, A40, H⟩ := H
 (try dsimp only at H)
 have A4 := Aside0.mk A40
 clear A40
 by_cases c5 : t1063 = true
 ·subst c5
  rw [if_pos rfl] at H
  have H1 := H
  clear H
  have H := H1
  clear H1
  replace H := Option.bind_eq_some_iff.mp H
  obtain ⟨t1064, A60, H⟩ := H
  (try dsimp only at H)
  have A6 := Aside0.mk A60
  clear A60
  replace H := Option.bind_eq_some_iff.mp H
  obtain ⟨t1067, A70, H⟩ := H
  (try dsimp only at H)
  have A7 := Aside0.mk A70
  clear A70
  replace H := Option.bind_eq_some_iff.mp H
  obtain ⟨t1068, A80, H⟩ := H
  replace H : (some t1068) = some r := H
  have A8 := Aside0.mk A80
  clear A80
  obtain rfl := Option.some.inj H
  go_enter Tryd.func89, Tryd.ntmps89
  go_wp2_with (first | ((with_reducible refine gate_callee (f := 63) rfl ?_); refine goesL_ (some 9) rfl rfl Tryd.func63 (by kernel_rfl) rfl #[.string a1] rfl (by (try simp only [List.map_toArray, List.map_cons, List.map_nil]); first | done | rfl | (simp only [List.length_drop, List.length_take]; rfl)) ?_; (with_reducible refine (spec_l01Text.calls k a1 true _ A4.out).mono ?_); rintro e w' ⟨rfl, ⟨nd, rfl⟩⟩; refine ⟨_, rfl, ?_⟩) | ((with_reducible refine gate_callee (f := 75) rfl ?_); refine goesL_ (some 13) rfl rfl Tryd.func75 (by kernel_rfl) rfl #[.string a1] rfl (by (try simp only [List.map_toArray, List.map_cons, List.map_nil]); first | done | rfl | (simp only [List.length_drop, List.length_take]; rfl)) ?_; (with_reducible refine (spec_l01Words.calls k a1 t1064 _ A6.out).mono ?_); rintro e w9 ⟨v1065, rfl, ho0, hb⟩; refine ⟨_, rfl, ?_⟩; have n0_ := Aside0.mk (Kd.R_lower ho0 (keep_size (w := w) (g := g) (row := none) (by repeat (first | (with_reducible first | exact HK.out | apply KeepBut.set_ | apply keep_drewN | apply keep_drew | apply keep_alloc) | exact HK.out)))); have n1_ := Aside0.mk (IsS32.below (by repeat (first | (with_reducible first | exact HI0.out | apply IsS32.alloc | apply IsS32.drewN | apply IsS32.drew) | exact HI0.out)) hb); have n2_ := Aside0.mk (KeepBut.trans (by repeat (first | (with_reducible first | exact HK.out | apply KeepBut.set_ | apply keep_drewN | apply keep_drew | apply keep_alloc) | exact HK.out)) (KeepBut.of_below hb g none) (.inl rfl)); have n3_ := Aside0.mk (below_step (by repeat (first | (with_reducible first | exact HB.out | apply bwA | apply pwN | apply bw1 | refine below_set ?_ (IsS32.ge HI0.out)) | exact HB.out)) hb); clear HI0; clear HK; clear HB; have HO1066 := n0_; have HI0 := n1_; have HK := n2_; have HB := n3_; clear n0_ n1_ n2_ n3_; (try clear hb); (try clear hb2); (try clear hk); (try clear hi); (try clear ho0); obtain ⟨Ao10, co10, eo10⟩ := Kd.R_slice HO1066.out; subst eo10) | ((with_reducible refine gate_callee (f := 74) rfl ?_); refine goesL_ (some 14) rfl rfl Tryd.func74 (by kernel_rfl) rfl #[.pointer (some ⟨g, 0, none⟩), .slice Ao10 t1064.length co10] rfl (by (try simp only [List.map_toArray, List.map_cons, List.map_nil]); first | done | rfl | (simp only [List.length_drop, List.length_take]; rfl)) ?_; (with_reducible refine (spec_l01Line.calls k g G0 G1 G2 G3 G4 G5 G6 G7 G8 G9 G10 G11 G12 G13 G14 G15 G16 G17 G18 G19 G20 G21 G22 G23 G24 G25 G26 G27 G28 _ _ t1064 t1067 w0 _ ?side1 ?side2 ?side3 ?side4 ?side5 A7.out).mono ?_); (case side1 => repeat (first | (with_reducible first | exact HI0.out | apply IsS32.alloc | apply IsS32.drewN | apply IsS32.drew) | exact HI0.out)); (case side2 => repeat (first | (with_reducible first | exact HB.out | apply bwA | apply pwN | apply bw1 | refine below_set ?_ (IsS32.ge HI0.out)) | exact HB.out)); (case side3 => repeat (first | exact (Kd.R_reads' HO1066.out).2.2 | (with_reducible refine Kd.C_alloc ?_ _) | (with_reducible refine Kd.C_drewN ?_ _) | (with_reducible refine Kd.C_drew ?_))); (case side4 => exact (Kd.R_reads' HO1066.out).2.1); (case side5 => exact far_slice (IsS32.own_ne HI0.out HO1066.out (by decide))); rintro e w11 ⟨rfl, hi, hb, hk⟩; refine ⟨_, rfl, ?_⟩; have n0_ := Aside0.mk (Kd.R_mono (Kd.R_keep (IsS32.apart (show IsS32 w0 _ g G0 G1 G2 G3 G4 G5 G6 G7 G8 G9 G10 G11 G12 G13 G14 G15 G16 G17 G18 G19 G20 G21 G22 G23 G24 G25 G26 G27 G28 from by repeat (first | (with_reducible first | exact HI0.out | apply IsS32.alloc | apply IsS32.drewN | apply IsS32.drew) | exact HI0.out)) (by (with_reducible repeat (first | apply Kd.R_alloc | apply Kd.R_drewN | apply Kd.R_drew)); exact HO1066.out) (by decide)) hk (fun _ h => h.2)) (fun _ h => h.1)); have n1_ := Aside0.mk (KeepBut.trans (by repeat (first | (with_reducible first | exact HK.out | apply KeepBut.set_ | apply keep_drewN | apply keep_drew | apply keep_alloc) | exact HK.out)) hk (.inl rfl)); have n2_ := Aside0.mk (hb); have n3_ := Aside0.mk (hi); clear HO1066; clear HK; clear HB; clear HI0; have HO1066 := n0_; have HK := n1_; have HB := n2_; have HI0 := n3_; clear n0_ n1_ n2_ n3_; (try clear hb); (try clear hb2); (try clear hk); (try clear hi)) | ((with_reducible refine gate_callee (f := 133) rfl ?_); refine goesL_ (some 20) rfl rfl Tryd.func133 (by kernel_rfl) rfl #[.int .i64 (wrap64 (t1067 - a2)), .int .i64 (wrap64 (-(wrap64 (t1067 - a2))))] rfl (by (try simp only [List.map_toArray, List.map_cons, List.map_nil]); first | done | rfl | (simp only [List.length_drop, List.length_take]; rfl)) ?_; (with_reducible refine (spec_l00Max.calls (wrap64 (t1067 - a2)) (wrap64 (-(wrap64 (t1067 - a2)))) t1068 _ A8.out).mono ?_); rintro e w' ⟨rfl, ⟨nd, rfl⟩⟩; refine ⟨_, rfl, ?_⟩))
  go_ret
  exact ⟨by first | rfl | (simp [errW_none, errW_some] <;> rfl) | (simp [*, errW_none, errW_some] <;> rfl), by repeat (first | (with_reducible first | exact HI0.out | apply IsS32.alloc | apply IsS32.drewN | apply IsS32.drew) | exact HI0.out), by repeat (first | (with_reducible first | exact HB.out | apply bwA | apply pwN | apply bw1 | refine below_set ?_ (IsS32.ge HI0.out)) | exact HB.out), by repeat (first | (with_reducible first | exact HK.out | apply KeepBut.set_ | apply keep_drewN | apply keep_drew | apply keep_alloc) | exact HK.out)⟩
 ·replace c5 := Bool.eq_false_iff.mpr c5
  subst c5
  rw [if_neg (show ¬ (false = true) by decide)] at H
  have H1 := H
  clear H
  have H := H1
  clear H1
  obtain rfl := Option.some.inj H
  go_enter Tryd.func89, Tryd.ntmps89
  go_wp2_with (first | ((with_reducible refine gate_callee (f := 63) rfl ?_); refine goesL_ (some 9) rfl rfl Tryd.func63 (by kernel_rfl) rfl #[.string a1] rfl (by (try simp only [List.map_toArray, List.map_cons, List.map_nil]); first | done | rfl | (simp only [List.length_drop, List.length_take]; rfl)) ?_; (with_reducible refine (spec_l01Text.calls k a1 false _ A4.out).mono ?_); rintro e w' ⟨rfl, ⟨nd, rfl⟩⟩; refine ⟨_, rfl, ?_⟩))
  go_ret
  exact ⟨by first | rfl | (simp [errW_none, errW_some] <;> rfl) | (simp [*, errW_none, errW_some] <;> rfl), by repeat (first | (with_reducible first | exact HI0.out | apply IsS32.alloc | apply IsS32.drewN | apply IsS32.drew) | exact HI0.out), by repeat (first | (with_reducible first | exact HB.out | apply bwA | apply pwN | apply bw1 | refine below_set ?_ (IsS32.ge HI0.out)) | exact HB.out), by repeat (first | (with_reducible first | exact HK.out | apply KeepBut.set_ | apply keep_drewN | apply keep_drew | apply keep_alloc) | exact HK.out)⟩
end Go.Proofs.YticjkfacdmmopaaDoor.Q
namespace Go.Proofs.YticjkfacdmmopaaDoor.Ext
end Go.Proofs.YticjkfacdmmopaaDoor.Ext
namespace Go.Proofs.YticjkfacdmmopaaDoor.Q
open Go.Proofs.YticjkfacdmmopaaDoor.Ext
open Go.RowKit Go.Proofs.YticjkfacdmmopaaDoorW.PrintWords Go.Proofs.YticjkfacdmmopaaDoorW.PrintLast Go.Proofs.YticjkfacdmmopaaDoorW.PrintMore
attribute [local go_sem] max2_int min2_int max_two min_two max_three min_three max_four min_four
set_option linter.unusedVariables false
set_option linter.unusedSimpArgs false
mutual
def impl_gapCode.j0 : Nat → Int → Bool → Int → Int → Int → Int → Int → Int → Int → Int → Int → Int → Int → Int → Int → Int → Int → Int → Int → Int → Int → Int → Int → Int → Int → Int → Int → Int → Int → Int → List (S137) → ByteArray → ByteArray → Int → Option (Int)
 | 0, _, _, _, _, _, _, _, _, _, _, _, _, _, _, _, _, _, _, _, _, _, _, _, _, _, _, _, _, _, _, _, _, _, _ => none
 | k + 1, x2, x7, x1080000, x1080001, x1080002, x1080003, x1080004, x1080005, x1080006, x1080007, x1080008, x1080009, x1080010, x1080011, x1080012, x1080013, x1080014, x1080015, x1080016, x1080017, x1080018, x1080019, x1080020, x1080021, x1080022, x1080023, x1080024, x1080025, x1080026, x1080027, x1080028, x1080029, x1080030, x1080031 => if x7 = true then (some 1) else ((impl_within.f x1080031 0 4000).bind fun t1082 => (if t1082 = true then ((impl_within.f x2 0 100).bind fun t1083 => (impl_gapCode.j1 k (!t1083) x1080000 x1080001 x1080002 x1080003 x1080004 x1080005 x1080006 x1080007 x1080008 x1080009 x1080010 x1080011 x1080012 x1080013 x1080014 x1080015 x1080016 x1080017 x1080018 x1080019 x1080020 x1080021 x1080022 x1080023 x1080024 x1080025 x1080026 x1080027 x1080028 x1080029 x1080030 x1080031)) else (impl_gapCode.j1 k true x1080000 x1080001 x1080002 x1080003 x1080004 x1080005 x1080006 x1080007 x1080008 x1080009 x1080010 x1080011 x1080012 x1080013 x1080014 x1080015 x1080016 x1080017 x1080018 x1080019 x1080020 x1080021 x1080022 x1080023 x1080024 x1080025 x1080026 x1080027 x1080028 x1080029 x1080030 x1080031)))
def impl_gapCode.j1 : Nat → Bool → Int → Int → Int → Int → Int → Int → Int → Int → Int → Int → Int → Int → Int → Int → Int → Int → Int → Int → Int → Int → Int → Int → Int → Int → Int → Int → Int → Int → List (S137) → ByteArray → ByteArray → Int → Option (Int)
 | 0, _, _, _, _, _, _, _, _, _, _, _, _, _, _, _, _, _, _, _, _, _, _, _, _, _, _, _, _, _, _, _, _, _ => none
 | k + 1, x17, x1080000, x1080001, x1080002, x1080003, x1080004, x1080005, x1080006, x1080007, x1080008, x1080009, x1080010, x1080011, x1080012, x1080013, x1080014, x1080015, x1080016, x1080017, x1080018, x1080019, x1080020, x1080021, x1080022, x1080023, x1080024, x1080025, x1080026, x1080027, x1080028, x1080029, x1080030, x1080031 => if x17 = true then (some 2) else ((impl_isSpaced.f k x1080029).bind fun t1084 => (if t1084 = true then ((impl_isSpaced.f k x1080030).bind fun t1085 => ((impl_unless.f t1085 5).bind fun t1086 => (some t1086))) else ((impl_unless.f false 5).bind fun t1087 => (some t1087))))
end
def impl_gapCode.f (k : Nat) (F0 F1 F2 F3 F4 F5 F6 F7 F8 F9 F10 F11 F12 F13 F14 F15 F16 F17 F18 F19 F20 F21 F22 F23 F24 F25 F26 F27 : Int) (l0_28 : List (S137)) (F29 : ByteArray) (F30 : ByteArray) (F31 : Int) (l1 : List ByteArray) (a2 : Int) : Option (Int) := (impl_ValidFace.f F0 F1 F2 F3 F4 F5 F6 F7 F8 F9 F10 F11 F12 F13 F14 F15 F16 F17 F18 F19 F20 F21 F22 F23 F24 F25 F26 F27 l0_28).bind fun t1080 => (if t1080 = true then ((impl_ValidList.f l1).bind fun t1081 => (impl_gapCode.j0 k a2 (!t1081) F0 F1 F2 F3 F4 F5 F6 F7 F8 F9 F10 F11 F12 F13 F14 F15 F16 F17 F18 F19 F20 F21 F22 F23 F24 F25 F26 F27 l0_28 F29 F30 F31)) else (impl_gapCode.j0 k a2 true F0 F1 F2 F3 F4 F5 F6 F7 F8 F9 F10 F11 F12 F13 F14 F15 F16 F17 F18 F19 F20 F21 F22 F23 F24 F25 F26 F27 l0_28 F29 F30 F31))
set_option maxHeartbeats 8000000 in
set_option maxRecDepth 100000 in
theorem impl_gapCode.calls (k : Nat) (F0 F1 F2 F3 F4 F5 F6 F7 F8 F9 F10 F11 F12 F13 F14 F15 F16 F17 F18 F19 F20 F21 F22 F23 F24 F25 F26 F27 : Int) (A0_28 : Option Addr) (c0_28 : Nat) (l0_28 : List (S137)) (F29 : ByteArray) (F30 : ByteArray) (F31 : Int) (A1 : Option Addr) (c1 : Nat) (l1 : List ByteArray) (a2 : Int) (r : Int) (w : World) (hr0_28 : Kd.C k137 w A0_28 l0_28.length l0_28) (hc0_28 : l0_28.length ≤ c0_28) (hr1 : Kd.C Kd.string w A1 l1.length l1) (hc1 : l1.length ≤ c1) (hG : GlobM w) (h : impl_gapCode.f k F0 F1 F2 F3 F4 F5 F6 F7 F8 F9 F10 F11 F12 F13 F14 F15 F16 F17 F18 F19 F20 F21 F22 F23 F24 F25 F26 F27 l0_28 F29 F30 F31 l1 a2 = some r) :
  Calls Tryd.prog 90 #[.agg #[.int .i8 F0, .int .i8 F1, .int .i8 F2, .int .i8 F3, .int .i8 F4, .int .i8 F5, .int .i8 F6, .int .i8 F7, .int .i8 F8, .int .i8 F9, .int .i8 F10, .int .i8 F11, .int .i8 F12, .int .i8 F13, .int .i8 F14, .int .i8 F15, .int .i8 F16, .int .i8 F17, .int .i8 F18, .int .i8 F19, .int .i8 F20, .int .i8 F21, .int .i8 F22, .int .i8 F23, .int .i8 F24, .int .i8 F25, .int .i8 F26, .int .i8 F27, .slice A0_28 l0_28.length c0_28, .string F29, .string F30, .int .i64 F31], .slice A1 l1.length c1, .int .i64 a2] w fun e w' => e = .returned (.int .i64 r) ∧ Below w.heap.size w w' := by
 have HG := Aside0.mk hG
 clear hG
 have hu108 := Tryd.underlying108
 have hu32 := Tryd.underlying32
 have HR0_28 := Aside0.mk hr0_28
 have HC0_28 := Aside0.mk hc0_28
 clear hr0_28 hc0_28
 have HR1 := Aside0.mk hr1
 have HC1 := Aside0.mk hc1
 clear hr1 hc1
 have HB := Aside0.mk (Below.refl w.heap.size w)
 have H : ((impl_ValidFace.f F0 F1 F2 F3 F4 F5 F6 F7 F8 F9 F10 F11 F12 F13 F14 F15 F16 F17 F18 F19 F20 F21 F22 F23 F24 F25 F26 F27 l0_28).bind fun t1080 => (if t1080 = true then ((impl_ValidList.f l1).bind fun t1081 => (impl_gapCode.j0 k a2 (!t1081) F0 F1 F2 F3 F4 F5 F6 F7 F8 F9 F10 F11 F12 F13 F14 F15 F16 F17 F18 F19 F20 F21 F22 F23 F24 F25 F26 F27 l0_28 F29 F30 F31)) else (impl_gapCode.j0 k a2 true F0 F1 F2 F3 F4 F5 F6 F7 F8 F9 F10 F11 F12 F13 F14 F15 F16 F17 F18 F19 F20 F21 F22 F23 F24 F25 F26 F27 l0_28 F29 F30 F31))) = some r := h
 clear h
 have HC4 := Aside0.mk H
 clear H
 go_enter Tryd.func90, Tryd.ntmps90
 go_upto_region 1 with (first | ((with_reducible refine gate_dst (N := 3) rfl ?_); refine box_event ?hg (N := 3) ?hd (cs := #[.int .i8 F0, .int .i8 F1, .int .i8 F2, .int .i8 F3, .int .i8 F4, .int .i8 F5, .int .i8 F6, .int .i8 F7, .int .i8 F8, .int .i8 F9, .int .i8 F10, .int .i8 F11, .int .i8 F12, .int .i8 F13, .int .i8 F14, .int .i8 F15, .int .i8 F16, .int .i8 F17, .int .i8 F18, .int .i8 F19, .int .i8 F20, .int .i8 F21, .int .i8 F22, .int .i8 F23, .int .i8 F24, .int .i8 F25, .int .i8 F26, .int .i8 F27, .slice A0_28 l0_28.length c0_28, .string F29, .string F30, .int .i64 F31]) (t := 108) ?hr ?_; (case hd => rfl); (case hg => rfl); (case hr => first | (go_simp; done) | (go_simp; rfl)); intro gb1079 hg w5 hbox hb; have n0_ := Aside0.mk (below_step (by repeat (first | (with_reducible first | exact HB.out | apply bwA | apply pwN | apply bw1) | exact HB.out)) hb); have n1_ := Aside0.mk (hbox); have n2_ := Aside0.mk ((by rw [hg]; exact (below_size (by repeat (first | (with_reducible first | exact HB.out | apply bwA | apply pwN | apply bw1) | exact HB.out))) : w.heap.size ≤ gb1079)); have n3_ := Aside0.mk ((by rw [hg]; exact (below_size (by repeat (first | (with_reducible first | exact HB.out | apply bwA | apply pwN | apply bw1) | exact HB.out))) : w.heap.size ≤ gb1079)); clear HB; have HB := n0_; have BK1079 := n1_; have GW1079 := n2_; have GE1079 := n3_; clear n0_ n1_ n2_ n3_; clear hb hbox hg))
 (try simp only [Act.put, List.setIfInBounds_toArray, List.set_cons_zero, List.set_cons_succ])
 go_cut [7] (fun v7 wc => ∃ (kq : Nat) (x7_3 : Bool), v7 = .bool x7_3 ∧ Aside0 (impl_gapCode.j0 kq a2 x7_3 F0 F1 F2 F3 F4 F5 F6 F7 F8 F9 F10 F11 F12 F13 F14 F15 F16 F17 F18 F19 F20 F21 F22 F23 F24 F25 F26 F27 l0_28 F29 F30 F31 = some r) ∧ Aside0 (kq ≤ k) ∧ Aside0 (wc.heap[gb1079]? = some (.cells #[.int .i8 F0, .int .i8 F1, .int .i8 F2, .int .i8 F3, .int .i8 F4, .int .i8 F5, .int .i8 F6, .int .i8 F7, .int .i8 F8, .int .i8 F9, .int .i8 F10, .int .i8 F11, .int .i8 F12, .int .i8 F13, .int .i8 F14, .int .i8 F15, .int .i8 F16, .int .i8 F17, .int .i8 F18, .int .i8 F19, .int .i8 F20, .int .i8 F21, .int .i8 F22, .int .i8 F23, .int .i8 F24, .int .i8 F25, .int .i8 F26, .int .i8 F27, (.slice A0_28 l0_28.length c0_28), .string F29, .string F30, .int .i64 F31] 108 (0, 0))) ∧ Aside0 (Below w.heap.size w wc))
 case first =>
  have H := HC4.out
  clear HC4
  replace H := Option.bind_eq_some_iff.mp H
  obtain ⟨t1080, A60, H⟩ := H
  (try dsimp only at H)
  have A6 := Aside0.mk A60
  clear A60
  by_cases c7 : t1080 = true
  ·subst c7
   rw [if_pos rfl] at H
   have H1 := H
   clear H
   have H := H1
   clear H1
   replace H := Option.bind_eq_some_iff.mp H
   obtain ⟨t1081, A80, H⟩ := H
   (try dsimp only at H)
   have A8 := Aside0.mk A80
   clear A80
   have H' := Aside0.mk H
   clear H
   go_wp2_with (first | ((with_reducible refine gate_dst (N := 9) rfl ?_); refine wpList_load_mid rfl 32 (.tmp 8) rfl gb1079 0 rfl [.int .i8 F0, .int .i8 F1, .int .i8 F2, .int .i8 F3, .int .i8 F4, .int .i8 F5, .int .i8 F6, .int .i8 F7, .int .i8 F8, .int .i8 F9, .int .i8 F10, .int .i8 F11, .int .i8 F12, .int .i8 F13, .int .i8 F14, .int .i8 F15, .int .i8 F16, .int .i8 F17, .int .i8 F18, .int .i8 F19, .int .i8 F20, .int .i8 F21, .int .i8 F22, .int .i8 F23, .int .i8 F24, .int .i8 F25, .int .i8 F26, .int .i8 F27, .slice A0_28 l0_28.length c0_28] _ (range_partx_ [] [.int .i8 F0, .int .i8 F1, .int .i8 F2, .int .i8 F3, .int .i8 F4, .int .i8 F5, .int .i8 F6, .int .i8 F7, .int .i8 F8, .int .i8 F9, .int .i8 F10, .int .i8 F11, .int .i8 F12, .int .i8 F13, .int .i8 F14, .int .i8 F15, .int .i8 F16, .int .i8 F17, .int .i8 F18, .int .i8 F19, .int .i8 F20, .int .i8 F21, .int .i8 F22, .int .i8 F23, .int .i8 F24, .int .i8 F25, .int .i8 F26, .int .i8 F27, .slice A0_28 l0_28.length c0_28] [.string F29, .string F30, .int .i64 F31] 0 rfl (by (with_reducible repeat (first | refine blk_drewN ?_ _ | refine blk_drew ?_ | refine blk_alloc ?_ _)); exact BK1079.out)) Tryd.underlying32 rfl (by exact (show (Tryd.prog.info? 32).map (·.size) = some 29 by kernel_rfl)) ?_) | ((with_reducible refine gate_callee (f := 68) rfl ?_); refine goesL_ (some 10) rfl rfl Tryd.func68 (by kernel_rfl) rfl #[.agg #[.int .i8 F0, .int .i8 F1, .int .i8 F2, .int .i8 F3, .int .i8 F4, .int .i8 F5, .int .i8 F6, .int .i8 F7, .int .i8 F8, .int .i8 F9, .int .i8 F10, .int .i8 F11, .int .i8 F12, .int .i8 F13, .int .i8 F14, .int .i8 F15, .int .i8 F16, .int .i8 F17, .int .i8 F18, .int .i8 F19, .int .i8 F20, .int .i8 F21, .int .i8 F22, .int .i8 F23, .int .i8 F24, .int .i8 F25, .int .i8 F26, .int .i8 F27, .slice A0_28 l0_28.length c0_28]] rfl (by (try simp only [List.map_toArray, List.map_cons, List.map_nil]); first | done | rfl | (simp only [List.length_drop, List.length_take]; rfl)) ?_; (with_reducible refine (impl_ValidFace.calls F0 F1 F2 F3 F4 F5 F6 F7 F8 F9 F10 F11 F12 F13 F14 F15 F16 F17 F18 F19 F20 F21 F22 F23 F24 F25 F26 F27 _ _ l0_28 true _ ?side1 ?side2 A6.out).mono ?_); (case side1 => repeat (first | exact (Kd.C_below HR0_28.out HB.out) | (with_reducible refine Kd.C_alloc ?_ _) | (with_reducible refine Kd.C_drewN ?_ _) | (with_reducible refine Kd.C_drew ?_))); (case side2 => exact HC0_28.out); rintro e w9 ⟨rfl, hb⟩; refine ⟨_, rfl, ?_⟩; have n0_ := Aside0.mk (blk_below (g := gb1079) (o := .cells #[.int .i8 F0, .int .i8 F1, .int .i8 F2, .int .i8 F3, .int .i8 F4, .int .i8 F5, .int .i8 F6, .int .i8 F7, .int .i8 F8, .int .i8 F9, .int .i8 F10, .int .i8 F11, .int .i8 F12, .int .i8 F13, .int .i8 F14, .int .i8 F15, .int .i8 F16, .int .i8 F17, .int .i8 F18, .int .i8 F19, .int .i8 F20, .int .i8 F21, .int .i8 F22, .int .i8 F23, .int .i8 F24, .int .i8 F25, .int .i8 F26, .int .i8 F27, .slice A0_28 l0_28.length c0_28, .string F29, .string F30, .int .i64 F31] 108 (0, 0)) (by (with_reducible repeat (first | refine blk_drewN ?_ _ | refine blk_drew ?_ | refine blk_alloc ?_ _)); exact BK1079.out) hb); have n1_ := Aside0.mk (below_step (by repeat (first | (with_reducible first | exact HB.out | apply bwA | apply pwN | apply bw1 | refine below_set ?_ GE1079.out) | exact HB.out)) hb); clear BK1079; clear HB; have BK1079 := n0_; have HB := n1_; clear n0_ n1_; (try clear hb); (try clear hb2); (try clear hk); (try clear hi)) | (go_at_call 134; (with_reducible refine (impl_ValidList.calls _ _ l1 t1081 _ ?side1 ?side2 ?sideG A8.out).mono ?_); (case sideG => first | exact HG.out.below (by repeat (first | (with_reducible first | exact HB.out | apply bwA | apply pwN | apply bw1) | exact HB.out)) | exact (HG.out.below (by repeat (first | (with_reducible first | exact HB.out | apply bwA | apply pwN | apply bw1) | exact HB.out))).toM); (case side1 => repeat (first | exact (Kd.C_below HR1.out HB.out) | (with_reducible refine Kd.C_alloc ?_ _) | (with_reducible refine Kd.C_drewN ?_ _) | (with_reducible refine Kd.C_drew ?_))); (case side2 => exact HC1.out); rintro e w10 ⟨rfl, hb⟩; have n0_ := Aside0.mk (blk_below (g := gb1079) (o := .cells #[.int .i8 F0, .int .i8 F1, .int .i8 F2, .int .i8 F3, .int .i8 F4, .int .i8 F5, .int .i8 F6, .int .i8 F7, .int .i8 F8, .int .i8 F9, .int .i8 F10, .int .i8 F11, .int .i8 F12, .int .i8 F13, .int .i8 F14, .int .i8 F15, .int .i8 F16, .int .i8 F17, .int .i8 F18, .int .i8 F19, .int .i8 F20, .int .i8 F21, .int .i8 F22, .int .i8 F23, .int .i8 F24, .int .i8 F25, .int .i8 F26, .int .i8 F27, .slice A0_28 l0_28.length c0_28, .string F29, .string F30, .int .i64 F31] 108 (0, 0)) (by (with_reducible repeat (first | refine blk_drewN ?_ _ | refine blk_drew ?_ | refine blk_alloc ?_ _)); exact BK1079.out) hb); have n1_ := Aside0.mk (below_step (by repeat (first | (with_reducible first | exact HB.out | apply bwA | apply pwN | apply bw1 | refine below_set ?_ GE1079.out) | exact HB.out)) hb); clear BK1079; clear HB; have BK1079 := n0_; have HB := n1_; clear n0_ n1_; (try clear hb); (try clear hb2); (try clear hk); (try clear hi)))
   go_meet
   case rel => exact ⟨_, (!t1081), (by first | rfl | (simp; done) | (simp [*]; done)), H', ⟨by first | omega | exact Nat.le_refl _⟩, ⟨by (with_reducible repeat (first | refine blk_drewN ?_ _ | refine blk_drew ?_ | refine blk_alloc ?_ _)); exact BK1079.out⟩, ⟨by repeat (first | (with_reducible first | exact HB.out | apply bwA | apply pwN | apply bw1 | refine below_set ?_ GE1079.out) | exact HB.out)⟩⟩
  ·replace c7 := Bool.eq_false_iff.mpr c7
   subst c7
   rw [if_neg (show ¬ (false = true) by decide)] at H
   have H1 := H
   clear H
   have H := H1
   clear H1
   have H' := Aside0.mk H
   clear H
   go_wp2_with (first | ((with_reducible refine gate_dst (N := 9) rfl ?_); refine wpList_load_mid rfl 32 (.tmp 8) rfl gb1079 0 rfl [.int .i8 F0, .int .i8 F1, .int .i8 F2, .int .i8 F3, .int .i8 F4, .int .i8 F5, .int .i8 F6, .int .i8 F7, .int .i8 F8, .int .i8 F9, .int .i8 F10, .int .i8 F11, .int .i8 F12, .int .i8 F13, .int .i8 F14, .int .i8 F15, .int .i8 F16, .int .i8 F17, .int .i8 F18, .int .i8 F19, .int .i8 F20, .int .i8 F21, .int .i8 F22, .int .i8 F23, .int .i8 F24, .int .i8 F25, .int .i8 F26, .int .i8 F27, .slice A0_28 l0_28.length c0_28] _ (range_partx_ [] [.int .i8 F0, .int .i8 F1, .int .i8 F2, .int .i8 F3, .int .i8 F4, .int .i8 F5, .int .i8 F6, .int .i8 F7, .int .i8 F8, .int .i8 F9, .int .i8 F10, .int .i8 F11, .int .i8 F12, .int .i8 F13, .int .i8 F14, .int .i8 F15, .int .i8 F16, .int .i8 F17, .int .i8 F18, .int .i8 F19, .int .i8 F20, .int .i8 F21, .int .i8 F22, .int .i8 F23, .int .i8 F24, .int .i8 F25, .int .i8 F26, .int .i8 F27, .slice A0_28 l0_28.length c0_28] [.string F29, .string F30, .int .i64 F31] 0 rfl (by (with_reducible repeat (first | refine blk_drewN ?_ _ | refine blk_drew ?_ | refine blk_alloc ?_ _)); exact BK1079.out)) Tryd.underlying32 rfl (by exact (show (Tryd.prog.info? 32).map (·.size) = some 29 by kernel_rfl)) ?_) | ((with_reducible refine gate_callee (f := 68) rfl ?_); refine goesL_ (some 10) rfl rfl Tryd.func68 (by kernel_rfl) rfl #[.agg #[.int .i8 F0, .int .i8 F1, .int .i8 F2, .int .i8 F3, .int .i8 F4, .int .i8 F5, .int .i8 F6, .int .i8 F7, .int .i8 F8, .int .i8 F9, .int .i8 F10, .int .i8 F11, .int .i8 F12, .int .i8 F13, .int .i8 F14, .int .i8 F15, .int .i8 F16, .int .i8 F17, .int .i8 F18, .int .i8 F19, .int .i8 F20, .int .i8 F21, .int .i8 F22, .int .i8 F23, .int .i8 F24, .int .i8 F25, .int .i8 F26, .int .i8 F27, .slice A0_28 l0_28.length c0_28]] rfl (by (try simp only [List.map_toArray, List.map_cons, List.map_nil]); first | done | rfl | (simp only [List.length_drop, List.length_take]; rfl)) ?_; (with_reducible refine (impl_ValidFace.calls F0 F1 F2 F3 F4 F5 F6 F7 F8 F9 F10 F11 F12 F13 F14 F15 F16 F17 F18 F19 F20 F21 F22 F23 F24 F25 F26 F27 _ _ l0_28 false _ ?side1 ?side2 A6.out).mono ?_); (case side1 => repeat (first | exact (Kd.C_below HR0_28.out HB.out) | (with_reducible refine Kd.C_alloc ?_ _) | (with_reducible refine Kd.C_drewN ?_ _) | (with_reducible refine Kd.C_drew ?_))); (case side2 => exact HC0_28.out); rintro e w11 ⟨rfl, hb⟩; refine ⟨_, rfl, ?_⟩; have n0_ := Aside0.mk (blk_below (g := gb1079) (o := .cells #[.int .i8 F0, .int .i8 F1, .int .i8 F2, .int .i8 F3, .int .i8 F4, .int .i8 F5, .int .i8 F6, .int .i8 F7, .int .i8 F8, .int .i8 F9, .int .i8 F10, .int .i8 F11, .int .i8 F12, .int .i8 F13, .int .i8 F14, .int .i8 F15, .int .i8 F16, .int .i8 F17, .int .i8 F18, .int .i8 F19, .int .i8 F20, .int .i8 F21, .int .i8 F22, .int .i8 F23, .int .i8 F24, .int .i8 F25, .int .i8 F26, .int .i8 F27, .slice A0_28 l0_28.length c0_28, .string F29, .string F30, .int .i64 F31] 108 (0, 0)) (by (with_reducible repeat (first | refine blk_drewN ?_ _ | refine blk_drew ?_ | refine blk_alloc ?_ _)); exact BK1079.out) hb); have n1_ := Aside0.mk (below_step (by repeat (first | (with_reducible first | exact HB.out | apply bwA | apply pwN | apply bw1 | refine below_set ?_ GE1079.out) | exact HB.out)) hb); clear BK1079; clear HB; have BK1079 := n0_; have HB := n1_; clear n0_ n1_; (try clear hb); (try clear hb2); (try clear hk); (try clear hi)))
   go_meet
   case rel => exact ⟨_, (true), (by first | rfl | (simp; done) | (simp [*]; done)), H', ⟨by first | omega | exact Nat.le_refl _⟩, ⟨by (with_reducible repeat (first | refine blk_drewN ?_ _ | refine blk_drew ?_ | refine blk_alloc ?_ _)); exact BK1079.out⟩, ⟨by repeat (first | (with_reducible first | exact HB.out | apply bwA | apply pwN | apply bw1 | refine below_set ?_ GE1079.out) | exact HB.out)⟩⟩
 case rest =>
  clear HC4
  try clear c1
  try clear p2
  try clear c6
  try clear c7
  try clear c9
  obtain ⟨kq, x7_3, rfl, HA, HJ3, BK1079, HB⟩ := hcut
  cases kq with
  | zero => exact absurd HA.out (by simp [impl_gapCode.j0])
  | succ kj3 =>
   have H := HA.out
   clear HA
   simp only [impl_gapCode.j0] at H
   by_cases c12 : x7_3 = true
   ·subst c12
    rw [if_pos rfl] at H
    have H1 := H
    clear H
    have H := H1
    clear H1
    obtain rfl := Option.some.inj H
    go_wp2
    go_ret
    exact ⟨by first | rfl | (simp [errW_none, errW_some] <;> rfl) | (simp [*, errW_none, errW_some] <;> rfl), by repeat (first | (with_reducible first | exact HB.out | apply bwA | apply pwN | apply bw1 | refine below_set ?_ GE1079.out) | exact HB.out)⟩
   ·replace c12 := Bool.eq_false_iff.mpr c12
    subst c12
    rw [if_neg (show ¬ (false = true) by decide)] at H
    have H1 := H
    clear H
    have H := H1
    clear H1
    have HC13 := Aside0.mk H
    clear H
    go_upto_region 3 with (fail)
    go_cut [17] (fun v17 wc => ∃ (kq : Nat) (x17_12 : Bool), v17 = .bool x17_12 ∧ Aside0 (impl_gapCode.j1 kq x17_12 F0 F1 F2 F3 F4 F5 F6 F7 F8 F9 F10 F11 F12 F13 F14 F15 F16 F17 F18 F19 F20 F21 F22 F23 F24 F25 F26 F27 l0_28 F29 F30 F31 = some r) ∧ Aside0 (kq ≤ kj3) ∧ Aside0 (wc.heap[gb1079]? = some (.cells #[.int .i8 F0, .int .i8 F1, .int .i8 F2, .int .i8 F3, .int .i8 F4, .int .i8 F5, .int .i8 F6, .int .i8 F7, .int .i8 F8, .int .i8 F9, .int .i8 F10, .int .i8 F11, .int .i8 F12, .int .i8 F13, .int .i8 F14, .int .i8 F15, .int .i8 F16, .int .i8 F17, .int .i8 F18, .int .i8 F19, .int .i8 F20, .int .i8 F21, .int .i8 F22, .int .i8 F23, .int .i8 F24, .int .i8 F25, .int .i8 F26, .int .i8 F27, (.slice A0_28 l0_28.length c0_28), .string F29, .string F30, .int .i64 F31] 108 (0, 0))) ∧ Aside0 (Below w.heap.size w wc))
    case first =>
     have H := HC13.out
     clear HC13
     replace H := Option.bind_eq_some_iff.mp H
     obtain ⟨t1082, A140, H⟩ := H
     (try dsimp only at H)
     have A14 := Aside0.mk A140
     clear A140
     by_cases c15 : t1082 = true
     ·subst c15
      rw [if_pos rfl] at H
      have H1 := H
      clear H
      have H := H1
      clear H1
      replace H := Option.bind_eq_some_iff.mp H
      obtain ⟨t1083, A160, H⟩ := H
      (try dsimp only at H)
      have A16 := Aside0.mk A160
      clear A160
      have H' := Aside0.mk H
      clear H
      have hcz17_0 : wc.cell? ⟨gb1079, 0, none⟩ = some (.int .i8 F0) := (blk_cell BK1079.out 0).trans rfl
      have hcz17_1 : wc.cell? ⟨gb1079, 1, none⟩ = some (.int .i8 F1) := (blk_cell BK1079.out 1).trans rfl
      have hcz17_2 : wc.cell? ⟨gb1079, 2, none⟩ = some (.int .i8 F2) := (blk_cell BK1079.out 2).trans rfl
      have hcz17_3 : wc.cell? ⟨gb1079, 3, none⟩ = some (.int .i8 F3) := (blk_cell BK1079.out 3).trans rfl
      have hcz17_4 : wc.cell? ⟨gb1079, 4, none⟩ = some (.int .i8 F4) := (blk_cell BK1079.out 4).trans rfl
      have hcz17_5 : wc.cell? ⟨gb1079, 5, none⟩ = some (.int .i8 F5) := (blk_cell BK1079.out 5).trans rfl
      have hcz17_6 : wc.cell? ⟨gb1079, 6, none⟩ = some (.int .i8 F6) := (blk_cell BK1079.out 6).trans rfl
      have hcz17_7 : wc.cell? ⟨gb1079, 7, none⟩ = some (.int .i8 F7) := (blk_cell BK1079.out 7).trans rfl
      have hcz17_8 : wc.cell? ⟨gb1079, 8, none⟩ = some (.int .i8 F8) := (blk_cell BK1079.out 8).trans rfl
      have hcz17_9 : wc.cell? ⟨gb1079, 9, none⟩ = some (.int .i8 F9) := (blk_cell BK1079.out 9).trans rfl
      have hcz17_10 : wc.cell? ⟨gb1079, 10, none⟩ = some (.int .i8 F10) := (blk_cell BK1079.out 10).trans rfl
      have hcz17_11 : wc.cell? ⟨gb1079, 11, none⟩ = some (.int .i8 F11) := (blk_cell BK1079.out 11).trans rfl
      have hcz17_12 : wc.cell? ⟨gb1079, 12, none⟩ = some (.int .i8 F12) := (blk_cell BK1079.out 12).trans rfl
      have hcz17_13 : wc.cell? ⟨gb1079, 13, none⟩ = some (.int .i8 F13) := (blk_cell BK1079.out 13).trans rfl
      have hcz17_14 : wc.cell? ⟨gb1079, 14, none⟩ = some (.int .i8 F14) := (blk_cell BK1079.out 14).trans rfl
      have hcz17_15 : wc.cell? ⟨gb1079, 15, none⟩ = some (.int .i8 F15) := (blk_cell BK1079.out 15).trans rfl
      have hcz17_16 : wc.cell? ⟨gb1079, 16, none⟩ = some (.int .i8 F16) := (blk_cell BK1079.out 16).trans rfl
      have hcz17_17 : wc.cell? ⟨gb1079, 17, none⟩ = some (.int .i8 F17) := (blk_cell BK1079.out 17).trans rfl
      have hcz17_18 : wc.cell? ⟨gb1079, 18, none⟩ = some (.int .i8 F18) := (blk_cell BK1079.out 18).trans rfl
      have hcz17_19 : wc.cell? ⟨gb1079, 19, none⟩ = some (.int .i8 F19) := (blk_cell BK1079.out 19).trans rfl
      have hcz17_20 : wc.cell? ⟨gb1079, 20, none⟩ = some (.int .i8 F20) := (blk_cell BK1079.out 20).trans rfl
      have hcz17_21 : wc.cell? ⟨gb1079, 21, none⟩ = some (.int .i8 F21) := (blk_cell BK1079.out 21).trans rfl
      have hcz17_22 : wc.cell? ⟨gb1079, 22, none⟩ = some (.int .i8 F22) := (blk_cell BK1079.out 22).trans rfl
      have hcz17_23 : wc.cell? ⟨gb1079, 23, none⟩ = some (.int .i8 F23) := (blk_cell BK1079.out 23).trans rfl
      have hcz17_24 : wc.cell? ⟨gb1079, 24, none⟩ = some (.int .i8 F24) := (blk_cell BK1079.out 24).trans rfl
      have hcz17_25 : wc.cell? ⟨gb1079, 25, none⟩ = some (.int .i8 F25) := (blk_cell BK1079.out 25).trans rfl
      have hcz17_26 : wc.cell? ⟨gb1079, 26, none⟩ = some (.int .i8 F26) := (blk_cell BK1079.out 26).trans rfl
      have hcz17_27 : wc.cell? ⟨gb1079, 27, none⟩ = some (.int .i8 F27) := (blk_cell BK1079.out 27).trans rfl
      have hcz17_28 : wc.cell? ⟨gb1079, 28, none⟩ = some (.slice A0_28 l0_28.length c0_28) := (blk_cell BK1079.out 28).trans rfl
      have hcz17_29 : wc.cell? ⟨gb1079, 29, none⟩ = some (.string F29) := (blk_cell BK1079.out 29).trans rfl
      have hcz17_30 : wc.cell? ⟨gb1079, 30, none⟩ = some (.string F30) := (blk_cell BK1079.out 30).trans rfl
      have hcz17_31 : wc.cell? ⟨gb1079, 31, none⟩ = some (.int .i64 F31) := (blk_cell BK1079.out 31).trans rfl
      have hfz17_0 := blk_frozen BK1079.out 0
      have hfz17_1 := blk_frozen BK1079.out 1
      have hfz17_2 := blk_frozen BK1079.out 2
      have hfz17_3 := blk_frozen BK1079.out 3
      have hfz17_4 := blk_frozen BK1079.out 4
      have hfz17_5 := blk_frozen BK1079.out 5
      have hfz17_6 := blk_frozen BK1079.out 6
      have hfz17_7 := blk_frozen BK1079.out 7
      have hfz17_8 := blk_frozen BK1079.out 8
      have hfz17_9 := blk_frozen BK1079.out 9
      have hfz17_10 := blk_frozen BK1079.out 10
      have hfz17_11 := blk_frozen BK1079.out 11
      have hfz17_12 := blk_frozen BK1079.out 12
      have hfz17_13 := blk_frozen BK1079.out 13
      have hfz17_14 := blk_frozen BK1079.out 14
      have hfz17_15 := blk_frozen BK1079.out 15
      have hfz17_16 := blk_frozen BK1079.out 16
      have hfz17_17 := blk_frozen BK1079.out 17
      have hfz17_18 := blk_frozen BK1079.out 18
      have hfz17_19 := blk_frozen BK1079.out 19
      have hfz17_20 := blk_frozen BK1079.out 20
      have hfz17_21 := blk_frozen BK1079.out 21
      have hfz17_22 := blk_frozen BK1079.out 22
      have hfz17_23 := blk_frozen BK1079.out 23
      have hfz17_24 := blk_frozen BK1079.out 24
      have hfz17_25 := blk_frozen BK1079.out 25
      have hfz17_26 := blk_frozen BK1079.out 26
      have hfz17_27 := blk_frozen BK1079.out 27
      have hfz17_28 := blk_frozen BK1079.out 28
      have hfz17_29 := blk_frozen BK1079.out 29
      have hfz17_30 := blk_frozen BK1079.out 30
      have hfz17_31 := blk_frozen BK1079.out 31
      go_wp2_with (first | ((with_reducible refine gate_callee (f := 85) rfl ?_); refine goesL_ (some 20) rfl rfl Tryd.func85 (by kernel_rfl) rfl #[.int .i64 F31, .int .i64 0, .int .i64 4000] rfl (by (try simp only [List.map_toArray, List.map_cons, List.map_nil]); first | done | rfl | (simp only [List.length_drop, List.length_take]; rfl)) ?_; (with_reducible refine (impl_within.calls F31 0 4000 true _ A14.out).mono ?_); rintro e w' ⟨rfl, ⟨nd, rfl⟩⟩; refine ⟨_, rfl, ?_⟩) | (go_at_call 85; (with_reducible refine (impl_within.calls a2 0 100 t1083 _ A16.out).mono ?_); rintro e w' ⟨rfl, ⟨nd, rfl⟩⟩))
      go_meet
      case rel => exact ⟨_, (!t1083), (by first | rfl | (simp; done) | (simp [*]; done)), H', ⟨by have := HJ3.out; first | omega | exact Nat.le_refl _⟩, ⟨by (with_reducible repeat (first | refine blk_drewN ?_ _ | refine blk_drew ?_ | refine blk_alloc ?_ _)); exact BK1079.out⟩, ⟨by repeat (first | (with_reducible first | exact HB.out | apply bwA | apply pwN | apply bw1 | refine below_set ?_ GE1079.out) | exact HB.out)⟩⟩
     ·replace c15 := Bool.eq_false_iff.mpr c15
      subst c15
      rw [if_neg (show ¬ (false = true) by decide)] at H
      have H1 := H
      clear H
      have H := H1
      clear H1
      have H' := Aside0.mk H
      clear H
      have hcz18_0 : wc.cell? ⟨gb1079, 0, none⟩ = some (.int .i8 F0) := (blk_cell BK1079.out 0).trans rfl
      have hcz18_1 : wc.cell? ⟨gb1079, 1, none⟩ = some (.int .i8 F1) := (blk_cell BK1079.out 1).trans rfl
      have hcz18_2 : wc.cell? ⟨gb1079, 2, none⟩ = some (.int .i8 F2) := (blk_cell BK1079.out 2).trans rfl
      have hcz18_3 : wc.cell? ⟨gb1079, 3, none⟩ = some (.int .i8 F3) := (blk_cell BK1079.out 3).trans rfl
      have hcz18_4 : wc.cell? ⟨gb1079, 4, none⟩ = some (.int .i8 F4) := (blk_cell BK1079.out 4).trans rfl
      have hcz18_5 : wc.cell? ⟨gb1079, 5, none⟩ = some (.int .i8 F5) := (blk_cell BK1079.out 5).trans rfl
      have hcz18_6 : wc.cell? ⟨gb1079, 6, none⟩ = some (.int .i8 F6) := (blk_cell BK1079.out 6).trans rfl
      have hcz18_7 : wc.cell? ⟨gb1079, 7, none⟩ = some (.int .i8 F7) := (blk_cell BK1079.out 7).trans rfl
      have hcz18_8 : wc.cell? ⟨gb1079, 8, none⟩ = some (.int .i8 F8) := (blk_cell BK1079.out 8).trans rfl
      have hcz18_9 : wc.cell? ⟨gb1079, 9, none⟩ = some (.int .i8 F9) := (blk_cell BK1079.out 9).trans rfl
      have hcz18_10 : wc.cell? ⟨gb1079, 10, none⟩ = some (.int .i8 F10) := (blk_cell BK1079.out 10).trans rfl
      have hcz18_11 : wc.cell? ⟨gb1079, 11, none⟩ = some (.int .i8 F11) := (blk_cell BK1079.out 11).trans rfl
      have hcz18_12 : wc.cell? ⟨gb1079, 12, none⟩ = some (.int .i8 F12) := (blk_cell BK1079.out 12).trans rfl
      have hcz18_13 : wc.cell? ⟨gb1079, 13, none⟩ = some (.int .i8 F13) := (blk_cell BK1079.out 13).trans rfl
      have hcz18_14 : wc.cell? ⟨gb1079, 14, none⟩ = some (.int .i8 F14) := (blk_cell BK1079.out 14).trans rfl
      have hcz18_15 : wc.cell? ⟨gb1079, 15, none⟩ = some (.int .i8 F15) := (blk_cell BK1079.out 15).trans rfl
      have hcz18_16 : wc.cell? ⟨gb1079, 16, none⟩ = some (.int .i8 F16) := (blk_cell BK1079.out 16).trans rfl
      have hcz18_17 : wc.cell? ⟨gb1079, 17, none⟩ = some (.int .i8 F17) := (blk_cell BK1079.out 17).trans rfl
      have hcz18_18 : wc.cell? ⟨gb1079, 18, none⟩ = some (.int .i8 F18) := (blk_cell BK1079.out 18).trans rfl
      have hcz18_19 : wc.cell? ⟨gb1079, 19, none⟩ = some (.int .i8 F19) := (blk_cell BK1079.out 19).trans rfl
      have hcz18_20 : wc.cell? ⟨gb1079, 20, none⟩ = some (.int .i8 F20) := (blk_cell BK1079.out 20).trans rfl
      have hcz18_21 : wc.cell? ⟨gb1079, 21, none⟩ = some (.int .i8 F21) := (blk_cell BK1079.out 21).trans rfl
      have hcz18_22 : wc.cell? ⟨gb1079, 22, none⟩ = some (.int .i8 F22) := (blk_cell BK1079.out 22).trans rfl
      have hcz18_23 : wc.cell? ⟨gb1079, 23, none⟩ = some (.int .i8 F23) := (blk_cell BK1079.out 23).trans rfl
      have hcz18_24 : wc.cell? ⟨gb1079, 24, none⟩ = some (.int .i8 F24) := (blk_cell BK1079.out 24).trans rfl
      have hcz18_25 : wc.cell? ⟨gb1079, 25, none⟩ = some (.int .i8 F25) := (blk_cell BK1079.out 25).trans rfl
      have hcz18_26 : wc.cell? ⟨gb1079, 26, none⟩ = some (.int .i8 F26) := (blk_cell BK1079.out 26).trans rfl
      have hcz18_27 : wc.cell? ⟨gb1079, 27, none⟩ = some (.int .i8 F27) := (blk_cell BK1079.out 27).trans rfl
      have hcz18_28 : wc.cell? ⟨gb1079, 28, none⟩ = some (.slice A0_28 l0_28.length c0_28) := (blk_cell BK1079.out 28).trans rfl
      have hcz18_29 : wc.cell? ⟨gb1079, 29, none⟩ = some (.string F29) := (blk_cell BK1079.out 29).trans rfl
      have hcz18_30 : wc.cell? ⟨gb1079, 30, none⟩ = some (.string F30) := (blk_cell BK1079.out 30).trans rfl
      have hcz18_31 : wc.cell? ⟨gb1079, 31, none⟩ = some (.int .i64 F31) := (blk_cell BK1079.out 31).trans rfl
      have hfz18_0 := blk_frozen BK1079.out 0
      have hfz18_1 := blk_frozen BK1079.out 1
      have hfz18_2 := blk_frozen BK1079.out 2
      have hfz18_3 := blk_frozen BK1079.out 3
      have hfz18_4 := blk_frozen BK1079.out 4
      have hfz18_5 := blk_frozen BK1079.out 5
      have hfz18_6 := blk_frozen BK1079.out 6
      have hfz18_7 := blk_frozen BK1079.out 7
      have hfz18_8 := blk_frozen BK1079.out 8
      have hfz18_9 := blk_frozen BK1079.out 9
      have hfz18_10 := blk_frozen BK1079.out 10
      have hfz18_11 := blk_frozen BK1079.out 11
      have hfz18_12 := blk_frozen BK1079.out 12
      have hfz18_13 := blk_frozen BK1079.out 13
      have hfz18_14 := blk_frozen BK1079.out 14
      have hfz18_15 := blk_frozen BK1079.out 15
      have hfz18_16 := blk_frozen BK1079.out 16
      have hfz18_17 := blk_frozen BK1079.out 17
      have hfz18_18 := blk_frozen BK1079.out 18
      have hfz18_19 := blk_frozen BK1079.out 19
      have hfz18_20 := blk_frozen BK1079.out 20
      have hfz18_21 := blk_frozen BK1079.out 21
      have hfz18_22 := blk_frozen BK1079.out 22
      have hfz18_23 := blk_frozen BK1079.out 23
      have hfz18_24 := blk_frozen BK1079.out 24
      have hfz18_25 := blk_frozen BK1079.out 25
      have hfz18_26 := blk_frozen BK1079.out 26
      have hfz18_27 := blk_frozen BK1079.out 27
      have hfz18_28 := blk_frozen BK1079.out 28
      have hfz18_29 := blk_frozen BK1079.out 29
      have hfz18_30 := blk_frozen BK1079.out 30
      have hfz18_31 := blk_frozen BK1079.out 31
      go_wp2_with (first | ((with_reducible refine gate_callee (f := 85) rfl ?_); refine goesL_ (some 20) rfl rfl Tryd.func85 (by kernel_rfl) rfl #[.int .i64 F31, .int .i64 0, .int .i64 4000] rfl (by (try simp only [List.map_toArray, List.map_cons, List.map_nil]); first | done | rfl | (simp only [List.length_drop, List.length_take]; rfl)) ?_; (with_reducible refine (impl_within.calls F31 0 4000 false _ A14.out).mono ?_); rintro e w' ⟨rfl, ⟨nd, rfl⟩⟩; refine ⟨_, rfl, ?_⟩))
      go_meet
      case rel => exact ⟨_, (true), (by first | rfl | (simp; done) | (simp [*]; done)), H', ⟨by have := HJ3.out; first | omega | exact Nat.le_refl _⟩, ⟨by (with_reducible repeat (first | refine blk_drewN ?_ _ | refine blk_drew ?_ | refine blk_alloc ?_ _)); exact BK1079.out⟩, ⟨by repeat (first | (with_reducible first | exact HB.out | apply bwA | apply pwN | apply bw1 | refine below_set ?_ GE1079.out) | exact HB.out)⟩⟩
    case rest =>
     clear HC13
     try clear c1
     try clear p2
     try clear c6
     try clear c7
     try clear c8
     try clear c9
     try clear c12
     try clear c15
     try clear hcz17_0
     try clear hcz17_1
     try clear hcz17_10
     try clear hcz17_11
     try clear hcz17_12
     try clear hcz17_13
     try clear hcz17_14
     try clear hcz17_15
     try clear hcz17_16
     try clear hcz17_17
     try clear hcz17_18
     try clear hcz17_19
     try clear hcz17_2
     try clear hcz17_20
     try clear hcz17_21
     try clear hcz17_22
     try clear hcz17_23
     try clear hcz17_24
     try clear hcz17_25
     try clear hcz17_26
     try clear hcz17_27
     try clear hcz17_28
     try clear hcz17_29
     try clear hcz17_3
     try clear hcz17_30
     try clear hcz17_31
     try clear hcz17_4
     try clear hcz17_5
     try clear hcz17_6
     try clear hcz17_7
     try clear hcz17_8
     try clear hcz17_9
     try clear hcz18_0
     try clear hcz18_1
     try clear hcz18_10
     try clear hcz18_11
     try clear hcz18_12
     try clear hcz18_13
     try clear hcz18_14
     try clear hcz18_15
     try clear hcz18_16
     try clear hcz18_17
     try clear hcz18_18
     try clear hcz18_19
     try clear hcz18_2
     try clear hcz18_20
     try clear hcz18_21
     try clear hcz18_22
     try clear hcz18_23
     try clear hcz18_24
     try clear hcz18_25
     try clear hcz18_26
     try clear hcz18_27
     try clear hcz18_28
     try clear hcz18_29
     try clear hcz18_3
     try clear hcz18_30
     try clear hcz18_31
     try clear hcz18_4
     try clear hcz18_5
     try clear hcz18_6
     try clear hcz18_7
     try clear hcz18_8
     try clear hcz18_9
     try clear hfz17_0
     try clear hfz17_1
     try clear hfz17_10
     try clear hfz17_11
     try clear hfz17_12
     try clear hfz17_13
     try clear hfz17_14
     try clear hfz17_15
     try clear hfz17_16
     try clear hfz17_17
     try clear hfz17_18
     try clear hfz17_19
     try clear hfz17_2
     try clear hfz17_20
     try clear hfz17_21
     try clear hfz17_22
     try clear hfz17_23
     try clear hfz17_24
     try clear hfz17_25
     try clear hfz17_26
     try clear hfz17_27
     try clear hfz17_28
     try clear hfz17_29
     try clear hfz17_3
     try clear hfz17_30
     try clear hfz17_31
     try clear hfz17_4
     try clear hfz17_5
     try clear hfz17_6
     try clear hfz17_7
     try clear hfz17_8
     try clear hfz17_9
     try clear hfz18_0
     try clear hfz18_1
     try clear hfz18_10
     try clear hfz18_11
     try clear hfz18_12
     try clear hfz18_13
     try clear hfz18_14
     try clear hfz18_15
     try clear hfz18_16
     try clear hfz18_17
     try clear hfz18_18
     try clear hfz18_19
     try clear hfz18_2
     try clear hfz18_20
     try clear hfz18_21
     try clear hfz18_22
     try clear hfz18_23
     try clear hfz18_24
     try clear hfz18_25
     try clear hfz18_26
     try clear hfz18_27
     try clear hfz18_28
     try clear hfz18_29
     try clear hfz18_3
     try clear hfz18_30
     try clear hfz18_31
     try clear hfz18_4
     try clear hfz18_5
     try clear hfz18_6
     try clear hfz18_7
     try clear hfz18_8
     try clear hfz18_9
     try clear p2
     obtain ⟨kq, x17_12, rfl, HA, HJ12, BK1079, HB⟩ := hcut
     cases kq with
     | zero => exact absurd HA.out (by simp [impl_gapCode.j1])
     | succ kj12 =>
      have H := HA.out
      clear HA
      simp only [impl_gapCode.j1] at H
      by_cases c19 : x17_12 = true
      ·subst c19
       rw [if_pos rfl] at H
       have H1 := H
       clear H
       have H := H1
       clear H1
       obtain rfl := Option.some.inj H
       go_wp2
       go_ret
       exact ⟨by first | rfl | (simp [errW_none, errW_some] <;> rfl) | (simp [*, errW_none, errW_some] <;> rfl), by repeat (first | (with_reducible first | exact HB.out | apply bwA | apply pwN | apply bw1 | refine below_set ?_ GE1079.out) | exact HB.out)⟩
      ·replace c19 := Bool.eq_false_iff.mpr c19
       subst c19
       rw [if_neg (show ¬ (false = true) by decide)] at H
       have H1 := H
       clear H
       have H := H1
       clear H1
       replace H := Option.bind_eq_some_iff.mp H
       obtain ⟨t1084, A200, H⟩ := H
       (try dsimp only at H)
       have A20 := Aside0.mk A200
       clear A200
       by_cases c21 : t1084 = true
       ·subst c21
        rw [if_pos rfl] at H
        have H1 := H
        clear H
        have H := H1
        clear H1
        replace H := Option.bind_eq_some_iff.mp H
        obtain ⟨t1085, A220, H⟩ := H
        (try dsimp only at H)
        have A22 := Aside0.mk A220
        clear A220
        replace H := Option.bind_eq_some_iff.mp H
        obtain ⟨t1086, A230, H⟩ := H
        replace H : (some t1086) = some r := H
        have A23 := Aside0.mk A230
        clear A230
        obtain rfl := Option.some.inj H
        have hcz24_0 : wc.cell? ⟨gb1079, 0, none⟩ = some (.int .i8 F0) := (blk_cell BK1079.out 0).trans rfl
        have hcz24_1 : wc.cell? ⟨gb1079, 1, none⟩ = some (.int .i8 F1) := (blk_cell BK1079.out 1).trans rfl
        have hcz24_2 : wc.cell? ⟨gb1079, 2, none⟩ = some (.int .i8 F2) := (blk_cell BK1079.out 2).trans rfl
        have hcz24_3 : wc.cell? ⟨gb1079, 3, none⟩ = some (.int .i8 F3) := (blk_cell BK1079.out 3).trans rfl
        have hcz24_4 : wc.cell? ⟨gb1079, 4, none⟩ = some (.int .i8 F4) := (blk_cell BK1079.out 4).trans rfl
        have hcz24_5 : wc.cell? ⟨gb1079, 5, none⟩ = some (.int .i8 F5) := (blk_cell BK1079.out 5).trans rfl
        have hcz24_6 : wc.cell? ⟨gb1079, 6, none⟩ = some (.int .i8 F6) := (blk_cell BK1079.out 6).trans rfl
        have hcz24_7 : wc.cell? ⟨gb1079, 7, none⟩ = some (.int .i8 F7) := (blk_cell BK1079.out 7).trans rfl
        have hcz24_8 : wc.cell? ⟨gb1079, 8, none⟩ = some (.int .i8 F8) := (blk_cell BK1079.out 8).trans rfl
        have hcz24_9 : wc.cell? ⟨gb1079, 9, none⟩ = some (.int .i8 F9) := (blk_cell BK1079.out 9).trans rfl
        have hcz24_10 : wc.cell? ⟨gb1079, 10, none⟩ = some (.int .i8 F10) := (blk_cell BK1079.out 10).trans rfl
        have hcz24_11 : wc.cell? ⟨gb1079, 11, none⟩ = some (.int .i8 F11) := (blk_cell BK1079.out 11).trans rfl
        have hcz24_12 : wc.cell? ⟨gb1079, 12, none⟩ = some (.int .i8 F12) := (blk_cell BK1079.out 12).trans rfl
        have hcz24_13 : wc.cell? ⟨gb1079, 13, none⟩ = some (.int .i8 F13) := (blk_cell BK1079.out 13).trans rfl
        have hcz24_14 : wc.cell? ⟨gb1079, 14, none⟩ = some (.int .i8 F14) := (blk_cell BK1079.out 14).trans rfl
        have hcz24_15 : wc.cell? ⟨gb1079, 15, none⟩ = some (.int .i8 F15) := (blk_cell BK1079.out 15).trans rfl
        have hcz24_16 : wc.cell? ⟨gb1079, 16, none⟩ = some (.int .i8 F16) := (blk_cell BK1079.out 16).trans rfl
        have hcz24_17 : wc.cell? ⟨gb1079, 17, none⟩ = some (.int .i8 F17) := (blk_cell BK1079.out 17).trans rfl
        have hcz24_18 : wc.cell? ⟨gb1079, 18, none⟩ = some (.int .i8 F18) := (blk_cell BK1079.out 18).trans rfl
        have hcz24_19 : wc.cell? ⟨gb1079, 19, none⟩ = some (.int .i8 F19) := (blk_cell BK1079.out 19).trans rfl
        have hcz24_20 : wc.cell? ⟨gb1079, 20, none⟩ = some (.int .i8 F20) := (blk_cell BK1079.out 20).trans rfl
        have hcz24_21 : wc.cell? ⟨gb1079, 21, none⟩ = some (.int .i8 F21) := (blk_cell BK1079.out 21).trans rfl
        have hcz24_22 : wc.cell? ⟨gb1079, 22, none⟩ = some (.int .i8 F22) := (blk_cell BK1079.out 22).trans rfl
        have hcz24_23 : wc.cell? ⟨gb1079, 23, none⟩ = some (.int .i8 F23) := (blk_cell BK1079.out 23).trans rfl
        have hcz24_24 : wc.cell? ⟨gb1079, 24, none⟩ = some (.int .i8 F24) := (blk_cell BK1079.out 24).trans rfl
        have hcz24_25 : wc.cell? ⟨gb1079, 25, none⟩ = some (.int .i8 F25) := (blk_cell BK1079.out 25).trans rfl
        have hcz24_26 : wc.cell? ⟨gb1079, 26, none⟩ = some (.int .i8 F26) := (blk_cell BK1079.out 26).trans rfl
        have hcz24_27 : wc.cell? ⟨gb1079, 27, none⟩ = some (.int .i8 F27) := (blk_cell BK1079.out 27).trans rfl
        have hcz24_28 : wc.cell? ⟨gb1079, 28, none⟩ = some (.slice A0_28 l0_28.length c0_28) := (blk_cell BK1079.out 28).trans rfl
        have hcz24_29 : wc.cell? ⟨gb1079, 29, none⟩ = some (.string F29) := (blk_cell BK1079.out 29).trans rfl
        have hcz24_30 : wc.cell? ⟨gb1079, 30, none⟩ = some (.string F30) := (blk_cell BK1079.out 30).trans rfl
        have hcz24_31 : wc.cell? ⟨gb1079, 31, none⟩ = some (.int .i64 F31) := (blk_cell BK1079.out 31).trans rfl
        have hfz24_0 := blk_frozen BK1079.out 0
        have hfz24_1 := blk_frozen BK1079.out 1
        have hfz24_2 := blk_frozen BK1079.out 2
        have hfz24_3 := blk_frozen BK1079.out 3
        have hfz24_4 := blk_frozen BK1079.out 4
        have hfz24_5 := blk_frozen BK1079.out 5
        have hfz24_6 := blk_frozen BK1079.out 6
        have hfz24_7 := blk_frozen BK1079.out 7
        have hfz24_8 := blk_frozen BK1079.out 8
        have hfz24_9 := blk_frozen BK1079.out 9
        have hfz24_10 := blk_frozen BK1079.out 10
        have hfz24_11 := blk_frozen BK1079.out 11
        have hfz24_12 := blk_frozen BK1079.out 12
        have hfz24_13 := blk_frozen BK1079.out 13
        have hfz24_14 := blk_frozen BK1079.out 14
        have hfz24_15 := blk_frozen BK1079.out 15
        have hfz24_16 := blk_frozen BK1079.out 16
        have hfz24_17 := blk_frozen BK1079.out 17
        have hfz24_18 := blk_frozen BK1079.out 18
        have hfz24_19 := blk_frozen BK1079.out 19
        have hfz24_20 := blk_frozen BK1079.out 20
        have hfz24_21 := blk_frozen BK1079.out 21
        have hfz24_22 := blk_frozen BK1079.out 22
        have hfz24_23 := blk_frozen BK1079.out 23
        have hfz24_24 := blk_frozen BK1079.out 24
        have hfz24_25 := blk_frozen BK1079.out 25
        have hfz24_26 := blk_frozen BK1079.out 26
        have hfz24_27 := blk_frozen BK1079.out 27
        have hfz24_28 := blk_frozen BK1079.out 28
        have hfz24_29 := blk_frozen BK1079.out 29
        have hfz24_30 := blk_frozen BK1079.out 30
        have hfz24_31 := blk_frozen BK1079.out 31
        go_wp2_with (first | ((with_reducible refine gate_callee (f := 135) rfl ?_); refine goesL_ (some 29) rfl rfl Tryd.func135 (by kernel_rfl) rfl #[.string F29] rfl (by (try simp only [List.map_toArray, List.map_cons, List.map_nil]); first | done | rfl | (simp only [List.length_drop, List.length_take]; rfl)) ?_; (with_reducible refine (impl_isSpaced.calls kj12 F29 true _ ?sideG A20.out).mono ?_); (case sideG => first | exact HG.out.below (by repeat (first | (with_reducible first | exact HB.out | apply bwA | apply pwN | apply bw1) | exact HB.out)) | exact (HG.out.below (by repeat (first | (with_reducible first | exact HB.out | apply bwA | apply pwN | apply bw1) | exact HB.out))).toM); rintro e w25 ⟨rfl, hb⟩; refine ⟨_, rfl, ?_⟩; have n0_ := Aside0.mk (blk_below (g := gb1079) (o := .cells #[.int .i8 F0, .int .i8 F1, .int .i8 F2, .int .i8 F3, .int .i8 F4, .int .i8 F5, .int .i8 F6, .int .i8 F7, .int .i8 F8, .int .i8 F9, .int .i8 F10, .int .i8 F11, .int .i8 F12, .int .i8 F13, .int .i8 F14, .int .i8 F15, .int .i8 F16, .int .i8 F17, .int .i8 F18, .int .i8 F19, .int .i8 F20, .int .i8 F21, .int .i8 F22, .int .i8 F23, .int .i8 F24, .int .i8 F25, .int .i8 F26, .int .i8 F27, .slice A0_28 l0_28.length c0_28, .string F29, .string F30, .int .i64 F31] 108 (0, 0)) (by (with_reducible repeat (first | refine blk_drewN ?_ _ | refine blk_drew ?_ | refine blk_alloc ?_ _)); exact BK1079.out) hb); have n1_ := Aside0.mk (below_step (by repeat (first | (with_reducible first | exact HB.out | apply bwA | apply pwN | apply bw1 | refine below_set ?_ GE1079.out) | exact HB.out)) hb); clear BK1079; clear HB; have BK1079 := n0_; have HB := n1_; clear n0_ n1_; (try clear hb); (try clear hb2); (try clear hk); (try clear hi); have hcz26_0 : w25.cell? ⟨gb1079, 0, none⟩ = some (.int .i8 F0) := (blk_cell BK1079.out 0).trans rfl; have hcz26_1 : w25.cell? ⟨gb1079, 1, none⟩ = some (.int .i8 F1) := (blk_cell BK1079.out 1).trans rfl; have hcz26_2 : w25.cell? ⟨gb1079, 2, none⟩ = some (.int .i8 F2) := (blk_cell BK1079.out 2).trans rfl; have hcz26_3 : w25.cell? ⟨gb1079, 3, none⟩ = some (.int .i8 F3) := (blk_cell BK1079.out 3).trans rfl; have hcz26_4 : w25.cell? ⟨gb1079, 4, none⟩ = some (.int .i8 F4) := (blk_cell BK1079.out 4).trans rfl; have hcz26_5 : w25.cell? ⟨gb1079, 5, none⟩ = some (.int .i8 F5) := (blk_cell BK1079.out 5).trans rfl; have hcz26_6 : w25.cell? ⟨gb1079, 6, none⟩ = some (.int .i8 F6) := (blk_cell BK1079.out 6).trans rfl; have hcz26_7 : w25.cell? ⟨gb1079, 7, none⟩ = some (.int .i8 F7) := (blk_cell BK1079.out 7).trans rfl; have hcz26_8 : w25.cell? ⟨gb1079, 8, none⟩ = some (.int .i8 F8) := (blk_cell BK1079.out 8).trans rfl; have hcz26_9 : w25.cell? ⟨gb1079, 9, none⟩ = some (.int .i8 F9) := (blk_cell BK1079.out 9).trans rfl; have hcz26_10 : w25.cell? ⟨gb1079, 10, none⟩ = some (.int .i8 F10) := (blk_cell BK1079.out 10).trans rfl; have hcz26_11 : w25.cell? ⟨gb1079, 11, none⟩ = some (.int .i8 F11) := (blk_cell BK1079.out 11).trans rfl; have hcz26_12 : w25.cell? ⟨gb1079, 12, none⟩ = some (.int .i8 F12) := (blk_cell BK1079.out 12).trans rfl; have hcz26_13 : w25.cell? ⟨gb1079, 13, none⟩ = some (.int .i8 F13) := (blk_cell BK1079.out 13).trans rfl; have hcz26_14 : w25.cell? ⟨gb1079, 14, none⟩ = some (.int .i8 F14) := (blk_cell BK1079.out 14).trans rfl; have hcz26_15 : w25.cell? ⟨gb1079, 15, none⟩ = some (.int .i8 F15) := (blk_cell BK1079.out 15).trans rfl; have hcz26_16 : w25.cell? ⟨gb1079, 16, none⟩ = some (.int .i8 F16) := (blk_cell BK1079.out 16).trans rfl; have hcz26_17 : w25.cell? ⟨gb1079, 17, none⟩ = some (.int .i8 F17) := (blk_cell BK1079.out 17).trans rfl; have hcz26_18 : w25.cell? ⟨gb1079, 18, none⟩ = some (.int .i8 F18) := (blk_cell BK1079.out 18).trans rfl; have hcz26_19 : w25.cell? ⟨gb1079, 19, none⟩ = some (.int .i8 F19) := (blk_cell BK1079.out 19).trans rfl; have hcz26_20 : w25.cell? ⟨gb1079, 20, none⟩ = some (.int .i8 F20) := (blk_cell BK1079.out 20).trans rfl; have hcz26_21 : w25.cell? ⟨gb1079, 21, none⟩ = some (.int .i8 F21) := (blk_cell BK1079.out 21).trans rfl; have hcz26_22 : w25.cell? ⟨gb1079, 22, none⟩ = some (.int .i8 F22) := (blk_cell BK1079.out 22).trans rfl; have hcz26_23 : w25.cell? ⟨gb1079, 23, none⟩ = some (.int .i8 F23) := (blk_cell BK1079.out 23).trans rfl; have hcz26_24 : w25.cell? ⟨gb1079, 24, none⟩ = some (.int .i8 F24) := (blk_cell BK1079.out 24).trans rfl; have hcz26_25 : w25.cell? ⟨gb1079, 25, none⟩ = some (.int .i8 F25) := (blk_cell BK1079.out 25).trans rfl; have hcz26_26 : w25.cell? ⟨gb1079, 26, none⟩ = some (.int .i8 F26) := (blk_cell BK1079.out 26).trans rfl; have hcz26_27 : w25.cell? ⟨gb1079, 27, none⟩ = some (.int .i8 F27) := (blk_cell BK1079.out 27).trans rfl; have hcz26_28 : w25.cell? ⟨gb1079, 28, none⟩ = some (.slice A0_28 l0_28.length c0_28) := (blk_cell BK1079.out 28).trans rfl; have hcz26_29 : w25.cell? ⟨gb1079, 29, none⟩ = some (.string F29) := (blk_cell BK1079.out 29).trans rfl; have hcz26_30 : w25.cell? ⟨gb1079, 30, none⟩ = some (.string F30) := (blk_cell BK1079.out 30).trans rfl; have hcz26_31 : w25.cell? ⟨gb1079, 31, none⟩ = some (.int .i64 F31) := (blk_cell BK1079.out 31).trans rfl; have hfz26_0 := blk_frozen BK1079.out 0; have hfz26_1 := blk_frozen BK1079.out 1; have hfz26_2 := blk_frozen BK1079.out 2; have hfz26_3 := blk_frozen BK1079.out 3; have hfz26_4 := blk_frozen BK1079.out 4; have hfz26_5 := blk_frozen BK1079.out 5; have hfz26_6 := blk_frozen BK1079.out 6; have hfz26_7 := blk_frozen BK1079.out 7; have hfz26_8 := blk_frozen BK1079.out 8; have hfz26_9 := blk_frozen BK1079.out 9; have hfz26_10 := blk_frozen BK1079.out 10; have hfz26_11 := blk_frozen BK1079.out 11; have hfz26_12 := blk_frozen BK1079.out 12; have hfz26_13 := blk_frozen BK1079.out 13; have hfz26_14 := blk_frozen BK1079.out 14; have hfz26_15 := blk_frozen BK1079.out 15; have hfz26_16 := blk_frozen BK1079.out 16; have hfz26_17 := blk_frozen BK1079.out 17; have hfz26_18 := blk_frozen BK1079.out 18; have hfz26_19 := blk_frozen BK1079.out 19; have hfz26_20 := blk_frozen BK1079.out 20; have hfz26_21 := blk_frozen BK1079.out 21; have hfz26_22 := blk_frozen BK1079.out 22; have hfz26_23 := blk_frozen BK1079.out 23; have hfz26_24 := blk_frozen BK1079.out 24; have hfz26_25 := blk_frozen BK1079.out 25; have hfz26_26 := blk_frozen BK1079.out 26; have hfz26_27 := blk_frozen BK1079.out 27; have hfz26_28 := blk_frozen BK1079.out 28; have hfz26_29 := blk_frozen BK1079.out 29; have hfz26_30 := blk_frozen BK1079.out 30; have hfz26_31 := blk_frozen BK1079.out 31) | (go_at_call 135; (with_reducible refine (impl_isSpaced.calls kj12 F30 t1085 _ ?sideG A22.out).mono ?_); (case sideG => first | exact HG.out.below (by repeat (first | (with_reducible first | exact HB.out | apply bwA | apply pwN | apply bw1) | exact HB.out)) | exact (HG.out.below (by repeat (first | (with_reducible first | exact HB.out | apply bwA | apply pwN | apply bw1) | exact HB.out))).toM); rintro e w27 ⟨rfl, hb⟩; have n0_ := Aside0.mk (blk_below (g := gb1079) (o := .cells #[.int .i8 F0, .int .i8 F1, .int .i8 F2, .int .i8 F3, .int .i8 F4, .int .i8 F5, .int .i8 F6, .int .i8 F7, .int .i8 F8, .int .i8 F9, .int .i8 F10, .int .i8 F11, .int .i8 F12, .int .i8 F13, .int .i8 F14, .int .i8 F15, .int .i8 F16, .int .i8 F17, .int .i8 F18, .int .i8 F19, .int .i8 F20, .int .i8 F21, .int .i8 F22, .int .i8 F23, .int .i8 F24, .int .i8 F25, .int .i8 F26, .int .i8 F27, .slice A0_28 l0_28.length c0_28, .string F29, .string F30, .int .i64 F31] 108 (0, 0)) (by (with_reducible repeat (first | refine blk_drewN ?_ _ | refine blk_drew ?_ | refine blk_alloc ?_ _)); exact BK1079.out) hb); have n1_ := Aside0.mk (below_step (by repeat (first | (with_reducible first | exact HB.out | apply bwA | apply pwN | apply bw1 | refine below_set ?_ GE1079.out) | exact HB.out)) hb); clear BK1079; clear HB; have BK1079 := n0_; have HB := n1_; clear n0_ n1_; (try clear hb); (try clear hb2); (try clear hk); (try clear hi)) | ((with_reducible refine gate_callee (f := 125) rfl ?_); refine goesL_ (some 35) rfl rfl Tryd.func125 (by kernel_rfl) rfl #[.bool t1085, .int .i64 5] rfl (by (try simp only [List.map_toArray, List.map_cons, List.map_nil]); first | done | rfl | (simp only [List.length_drop, List.length_take]; rfl)) ?_; (with_reducible refine (impl_unless.calls t1085 5 t1086 _ A23.out).mono ?_); rintro e w' ⟨rfl, ⟨nd, rfl⟩⟩; refine ⟨_, rfl, ?_⟩))
        go_ret
        exact ⟨by first | rfl | (simp [errW_none, errW_some] <;> rfl) | (simp [*, errW_none, errW_some] <;> rfl), by repeat (first | (with_reducible first | exact HB.out | apply bwA | apply pwN | apply bw1 | refine below_set ?_ GE1079.out) | exact HB.out)⟩
       ·replace c21 := Bool.eq_false_iff.mpr c21
        subst c21
        rw [if_neg (show ¬ (false = true) by decide)] at H
        have H1 := H
        clear H
        have H := H1
        clear H1
        replace H := Option.bind_eq_some_iff.mp H
        obtain ⟨t1087, A280, H⟩ := H
        replace H : (some t1087) = some r := H
        have A28 := Aside0.mk A280
        clear A280
        obtain rfl := Option.some.inj H
        have hcz29_0 : wc.cell? ⟨gb1079, 0, none⟩ = some (.int .i8 F0) := (blk_cell BK1079.out 0).trans rfl
        have hcz29_1 : wc.cell? ⟨gb1079, 1, none⟩ = some (.int .i8 F1) := (blk_cell BK1079.out 1).trans rfl
        have hcz29_2 : wc.cell? ⟨gb1079, 2, none⟩ = some (.int .i8 F2) := (blk_cell BK1079.out 2).trans rfl
        have hcz29_3 : wc.cell? ⟨gb1079, 3, none⟩ = some (.int .i8 F3) := (blk_cell BK1079.out 3).trans rfl
        have hcz29_4 : wc.cell? ⟨gb1079, 4, none⟩ = some (.int .i8 F4) := (blk_cell BK1079.out 4).trans rfl
        have hcz29_5 : wc.cell? ⟨gb1079, 5, none⟩ = some (.int .i8 F5) := (blk_cell BK1079.out 5).trans rfl
        have hcz29_6 : wc.cell? ⟨gb1079, 6, none⟩ = some (.int .i8 F6) := (blk_cell BK1079.out 6).trans rfl
        have hcz29_7 : wc.cell? ⟨gb1079, 7, none⟩ = some (.int .i8 F7) := (blk_cell BK1079.out 7).trans rfl
        have hcz29_8 : wc.cell? ⟨gb1079, 8, none⟩ = some (.int .i8 F8) := (blk_cell BK1079.out 8).trans rfl
        have hcz29_9 : wc.cell? ⟨gb1079, 9, none⟩ = some (.int .i8 F9) := (blk_cell BK1079.out 9).trans rfl
        have hcz29_10 : wc.cell? ⟨gb1079, 10, none⟩ = some (.int .i8 F10) := (blk_cell BK1079.out 10).trans rfl
        have hcz29_11 : wc.cell? ⟨gb1079, 11, none⟩ = some (.int .i8 F11) := (blk_cell BK1079.out 11).trans rfl
        have hcz29_12 : wc.cell? ⟨gb1079, 12, none⟩ = some (.int .i8 F12) := (blk_cell BK1079.out 12).trans rfl
        have hcz29_13 : wc.cell? ⟨gb1079, 13, none⟩ = some (.int .i8 F13) := (blk_cell BK1079.out 13).trans rfl
        have hcz29_14 : wc.cell? ⟨gb1079, 14, none⟩ = some (.int .i8 F14) := (blk_cell BK1079.out 14).trans rfl
        have hcz29_15 : wc.cell? ⟨gb1079, 15, none⟩ = some (.int .i8 F15) := (blk_cell BK1079.out 15).trans rfl
        have hcz29_16 : wc.cell? ⟨gb1079, 16, none⟩ = some (.int .i8 F16) := (blk_cell BK1079.out 16).trans rfl
        have hcz29_17 : wc.cell? ⟨gb1079, 17, none⟩ = some (.int .i8 F17) := (blk_cell BK1079.out 17).trans rfl
        have hcz29_18 : wc.cell? ⟨gb1079, 18, none⟩ = some (.int .i8 F18) := (blk_cell BK1079.out 18).trans rfl
        have hcz29_19 : wc.cell? ⟨gb1079, 19, none⟩ = some (.int .i8 F19) := (blk_cell BK1079.out 19).trans rfl
        have hcz29_20 : wc.cell? ⟨gb1079, 20, none⟩ = some (.int .i8 F20) := (blk_cell BK1079.out 20).trans rfl
        have hcz29_21 : wc.cell? ⟨gb1079, 21, none⟩ = some (.int .i8 F21) := (blk_cell BK1079.out 21).trans rfl
        have hcz29_22 : wc.cell? ⟨gb1079, 22, none⟩ = some (.int .i8 F22) := (blk_cell BK1079.out 22).trans rfl
        have hcz29_23 : wc.cell? ⟨gb1079, 23, none⟩ = some (.int .i8 F23) := (blk_cell BK1079.out 23).trans rfl
        have hcz29_24 : wc.cell? ⟨gb1079, 24, none⟩ = some (.int .i8 F24) := (blk_cell BK1079.out 24).trans rfl
        have hcz29_25 : wc.cell? ⟨gb1079, 25, none⟩ = some (.int .i8 F25) := (blk_cell BK1079.out 25).trans rfl
        have hcz29_26 : wc.cell? ⟨gb1079, 26, none⟩ = some (.int .i8 F26) := (blk_cell BK1079.out 26).trans rfl
        have hcz29_27 : wc.cell? ⟨gb1079, 27, none⟩ = some (.int .i8 F27) := (blk_cell BK1079.out 27).trans rfl
        have hcz29_28 : wc.cell? ⟨gb1079, 28, none⟩ = some (.slice A0_28 l0_28.length c0_28) := (blk_cell BK1079.out 28).trans rfl
        have hcz29_29 : wc.cell? ⟨gb1079, 29, none⟩ = some (.string F29) := (blk_cell BK1079.out 29).trans rfl
        have hcz29_30 : wc.cell? ⟨gb1079, 30, none⟩ = some (.string F30) := (blk_cell BK1079.out 30).trans rfl
        have hcz29_31 : wc.cell? ⟨gb1079, 31, none⟩ = some (.int .i64 F31) := (blk_cell BK1079.out 31).trans rfl
        have hfz29_0 := blk_frozen BK1079.out 0
        have hfz29_1 := blk_frozen BK1079.out 1
        have hfz29_2 := blk_frozen BK1079.out 2
        have hfz29_3 := blk_frozen BK1079.out 3
        have hfz29_4 := blk_frozen BK1079.out 4
        have hfz29_5 := blk_frozen BK1079.out 5
        have hfz29_6 := blk_frozen BK1079.out 6
        have hfz29_7 := blk_frozen BK1079.out 7
        have hfz29_8 := blk_frozen BK1079.out 8
        have hfz29_9 := blk_frozen BK1079.out 9
        have hfz29_10 := blk_frozen BK1079.out 10
        have hfz29_11 := blk_frozen BK1079.out 11
        have hfz29_12 := blk_frozen BK1079.out 12
        have hfz29_13 := blk_frozen BK1079.out 13
        have hfz29_14 := blk_frozen BK1079.out 14
        have hfz29_15 := blk_frozen BK1079.out 15
        have hfz29_16 := blk_frozen BK1079.out 16
        have hfz29_17 := blk_frozen BK1079.out 17
        have hfz29_18 := blk_frozen BK1079.out 18
        have hfz29_19 := blk_frozen BK1079.out 19
        have hfz29_20 := blk_frozen BK1079.out 20
        have hfz29_21 := blk_frozen BK1079.out 21
        have hfz29_22 := blk_frozen BK1079.out 22
        have hfz29_23 := blk_frozen BK1079.out 23
        have hfz29_24 := blk_frozen BK1079.out 24
        have hfz29_25 := blk_frozen BK1079.out 25
        have hfz29_26 := blk_frozen BK1079.out 26
        have hfz29_27 := blk_frozen BK1079.out 27
        have hfz29_28 := blk_frozen BK1079.out 28
        have hfz29_29 := blk_frozen BK1079.out 29
        have hfz29_30 := blk_frozen BK1079.out 30
        have hfz29_31 := blk_frozen BK1079.out 31
        go_wp2_with (first | ((with_reducible refine gate_callee (f := 135) rfl ?_); refine goesL_ (some 29) rfl rfl Tryd.func135 (by kernel_rfl) rfl #[.string F29] rfl (by (try simp only [List.map_toArray, List.map_cons, List.map_nil]); first | done | rfl | (simp only [List.length_drop, List.length_take]; rfl)) ?_; (with_reducible refine (impl_isSpaced.calls kj12 F29 false _ ?sideG A20.out).mono ?_); (case sideG => first | exact HG.out.below (by repeat (first | (with_reducible first | exact HB.out | apply bwA | apply pwN | apply bw1) | exact HB.out)) | exact (HG.out.below (by repeat (first | (with_reducible first | exact HB.out | apply bwA | apply pwN | apply bw1) | exact HB.out))).toM); rintro e w30 ⟨rfl, hb⟩; refine ⟨_, rfl, ?_⟩; have n0_ := Aside0.mk (blk_below (g := gb1079) (o := .cells #[.int .i8 F0, .int .i8 F1, .int .i8 F2, .int .i8 F3, .int .i8 F4, .int .i8 F5, .int .i8 F6, .int .i8 F7, .int .i8 F8, .int .i8 F9, .int .i8 F10, .int .i8 F11, .int .i8 F12, .int .i8 F13, .int .i8 F14, .int .i8 F15, .int .i8 F16, .int .i8 F17, .int .i8 F18, .int .i8 F19, .int .i8 F20, .int .i8 F21, .int .i8 F22, .int .i8 F23, .int .i8 F24, .int .i8 F25, .int .i8 F26, .int .i8 F27, .slice A0_28 l0_28.length c0_28, .string F29, .string F30, .int .i64 F31] 108 (0, 0)) (by (with_reducible repeat (first | refine blk_drewN ?_ _ | refine blk_drew ?_ | refine blk_alloc ?_ _)); exact BK1079.out) hb); have n1_ := Aside0.mk (below_step (by repeat (first | (with_reducible first | exact HB.out | apply bwA | apply pwN | apply bw1 | refine below_set ?_ GE1079.out) | exact HB.out)) hb); clear BK1079; clear HB; have BK1079 := n0_; have HB := n1_; clear n0_ n1_; (try clear hb); (try clear hb2); (try clear hk); (try clear hi)) | ((with_reducible refine gate_callee (f := 125) rfl ?_); refine goesL_ (some 35) rfl rfl Tryd.func125 (by kernel_rfl) rfl #[.bool false, .int .i64 5] rfl (by (try simp only [List.map_toArray, List.map_cons, List.map_nil]); first | done | rfl | (simp only [List.length_drop, List.length_take]; rfl)) ?_; (with_reducible refine (impl_unless.calls false 5 t1087 _ A28.out).mono ?_); rintro e w' ⟨rfl, ⟨nd, rfl⟩⟩; refine ⟨_, rfl, ?_⟩))
        go_ret
        exact ⟨by first | rfl | (simp [errW_none, errW_some] <;> rfl) | (simp [*, errW_none, errW_some] <;> rfl), by repeat (first | (with_reducible first | exact HB.out | apply bwA | apply pwN | apply bw1 | refine below_set ?_ GE1079.out) | exact HB.out)⟩
end Go.Proofs.YticjkfacdmmopaaDoor.Q
