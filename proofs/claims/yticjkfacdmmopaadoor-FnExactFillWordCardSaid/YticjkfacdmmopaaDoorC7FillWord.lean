/- Contracts and plain laws of functions of the given program; no conditions beside those in the theorems. -/
import Derived.Test.YticjkfacdmmopaaDoorC3FillWord
import Derived.Test.YticjkfacdmmopaaDoorC5FillWord
import Derived.Test.YticjkfacdmmopaaDoorC6FillWord
namespace Go.Proofs.YticjkfacdmmopaaDoor.Ext
end Go.Proofs.YticjkfacdmmopaaDoor.Ext
namespace Go.Proofs.YticjkfacdmmopaaDoor.Q
open Go.Proofs.YticjkfacdmmopaaDoor.Ext
open Go.RowKit Go.Proofs.YticjkfacdmmopaaDoorW.PrintWords Go.Proofs.YticjkfacdmmopaaDoorW.PrintLast Go.Proofs.YticjkfacdmmopaaDoorW.PrintMore
attribute [local go_sem] max2_int min2_int max_two min_two max_three min_three max_four min_four
set_option linter.unusedVariables false
set_option linter.unusedSimpArgs false
def laws_markText.l0 : Nat → Int → ByteArray → Option (ByteArray)
 | 0, _, _ => none
 | k + 1, x0, x3 => if x0 > 0 then ((some (([(wrap64 (48 + (Int.tmod x0 10))) % 256] : List Int) : List Int)).bind fun y1351 => (if (strOfNums y1351).size + x3.size ≤ 9223372036854775807 then (laws_markText.l0 k (wrap64 (Int.tdiv x0 10)) ((strOfNums y1351) ++ x3)) else (none))) else (if 1 + x3.size ≤ 9223372036854775807 then (some ((⟨#[109]⟩ : ByteArray) ++ x3)) else (none))
def laws_markText.f (k : Nat) (a0 : Int) : Option (ByteArray) := if a0 ≤ 0 then (some (⟨#[109, 48]⟩ : ByteArray)) else (laws_markText.l0 k a0 (⟨#[]⟩ : ByteArray))
set_option maxHeartbeats 8000000 in
set_option maxRecDepth 100000 in
theorem laws_markText.calls (k : Nat) (a0 : Int) (r : ByteArray) (w : World) (h : laws_markText.f k a0 = some r) :
  Calls Tryd.prog 95 #[.int .i64 a0] w fun e w' => e = .returned (.string r) ∧ Below w.heap.size w w' := by
 have HB := Aside0.mk (Below.refl w.heap.size w)
 have H : (if a0 ≤ 0 then (some (⟨#[109, 48]⟩ : ByteArray)) else (laws_markText.l0 k a0 (⟨#[]⟩ : ByteArray))) = some r := h
 clear h
 by_cases c2 : a0 ≤ 0
 ·rw [if_pos c2] at H
  have c2b0 : decide (a0 ≤ 0) = true := decide_eq_true c2
  clear c2
  obtain rfl := Option.some.inj H
  go_enter Tryd.func95, Tryd.ntmps95
  go_wp2
  go_ret
  exact ⟨by first | rfl | (simp [errW_none, errW_some] <;> rfl) | (simp [*, errW_none, errW_some] <;> rfl), by repeat (first | (with_reducible first | exact HB.out | apply bwA | apply pwN | apply bw1) | exact HB.out)⟩
 ·rw [if_neg c2] at H
  have c2b0 : decide (a0 ≤ 0) = false := decide_eq_false c2
  clear c2
  have H' := Aside0.mk H
  clear H
  go_enter Tryd.func95, Tryd.ntmps95
  go_wp2
  go_loopg [0, 3] k (fun kq v0 v3 w' => ∃ (x0_1 : Int) (x3_1 : ByteArray), v0 = .int .i64 x0_1 ∧ v3 = .string x3_1 ∧ Aside0 (laws_markText.l0 kq x0_1 x3_1 = some r) ∧ Aside0 (kq ≤ k) ∧ Aside0 (Below w.heap.size w w'))
  case atStart => exact ⟨(a0), ((⟨#[]⟩ : ByteArray)), (by first | rfl | (simp; done) | (simp [*]; done)), (by first | rfl | (simp; done) | (simp [*]; done)), H', ⟨Nat.le_refl _⟩, ⟨by repeat (first | (with_reducible first | exact HB.out | apply bwA | apply pwN | apply bw1) | exact HB.out)⟩⟩
  case round =>
   clear H'
   try clear c2
   try clear c2b0
   try clear p2
   obtain ⟨x0_1, x3_1, rfl, rfl, HA, HK1, HB⟩ := hrel
   cases gk with
   | zero => exact absurd HA.out (by simp [laws_markText.l0])
   | succ k1 =>
    have H := HA.out
    clear HA
    simp only [laws_markText.l0] at H
    by_cases c3 : x0_1 > 0
    ·rw [if_pos c3] at H
     have c3b0 : decide (0 < x0_1) = true := decide_eq_true c3
     clear c3
     obtain ⟨y1351, hy1351⟩ : ∃ y_ : List Int, y_ = (([(wrap64 (48 + (Int.tmod x0_1 10))) % 256] : List Int)) := ⟨_, rfl⟩
     replace H : (if (strOfNums y1351).size + x3_1.size ≤ 9223372036854775807 then (laws_markText.l0 k1 (wrap64 (Int.tdiv x0_1 10)) ((strOfNums y1351) ++ x3_1)) else (none)) = some r := by first | (rw [hy1351]; with_reducible exact H) | (have H2_ := (Option.bind_some _ _).symm.trans H; rw [hy1351]; with_reducible exact H2_) | (have H2_ := (Option.bind_some _ _).symm.trans H; with_reducible exact H2_) | with_reducible exact H | (rw [hy1351]; exact H) | exact H
     have Ny1351 := Aside0.mk hy1351
     clear hy1351
     by_cases c4 : (strOfNums y1351).size + x3_1.size ≤ 9223372036854775807
     ·rw [if_pos c4] at H
      have c4b0 := eq_true c4
      have c4b1 : decide ((strOfNums y1351).size + x3_1.size ≤ 9223372036854775807) = true := decide_eq_true c4
      try have c4b2 : (9223372036854775807 < (strOfNums y1351).size + x3_1.size) = False := eq_false (Nat.not_lt.2 c4)
      have H' := Aside0.mk H
      clear H
      go_wp2_with (first | ((with_reducible refine gate_dst (N := 12) rfl ?_); refine Kd.R_lit (Kd.int .u8) _ 5 ?hg (N := 12) ?hd (xs := ([(wrap64 (48 + (Int.tmod x0_1 10))) % 256] : List Int)) (inner := [.int .u8 ((wrap64 (48 + (Int.tmod x0_1 10))) % 256)]) (ok := fun _ => True) (okp := fun _ => True) ?hr ?hp (fun _ hk => hk) trivial (Below.refl _ _) (Nat.le_refl _) (by simp) ?_; (case hd => rfl); (case hg => rfl); (case hr => first | (go_simp; done) | (go_simp; rfl)); (case hp => exact (Reps.one (show Kd.M (Kd.int .u8) _ _ _ ((wrap64 (48 + (Int.tmod x0_1 10))) % 256) [.int .u8 ((wrap64 (48 + (Int.tmod x0_1 10))) % 256)] from rfl) (Reps.none _ _))); intro v1352 w5 ho6 hb hg_ hnew_; clear hg_ hnew_; (first | rw [← Ny1351.out] at ho6 | (simp only [Int.reduceToNat] at ho6; rw [← Ny1351.out] at ho6)); have n0_ := Aside0.mk (Kd.R_lower ho6 (below_size (by repeat (first | (with_reducible first | exact HB.out | apply bwA | apply pwN | apply bw1) | exact HB.out)))); have n1_ := Aside0.mk (below_step (by repeat (first | (with_reducible first | exact HB.out | apply bwA | apply pwN | apply bw1) | exact HB.out)) hb); clear HB; have HO1353 := n0_; have HB := n1_; clear n0_ n1_; clear hb ho6; have hcv7 := own_string (P := Tryd.prog) Tryd.underlying105 Tryd.underlying5 Tryd.underlying9 (Kd.own_of_R HO1353.out)))
      go_roundg k1
      case measure => have := HK1.out; omega
      case rel => exact ⟨(wrap64 (Int.tdiv x0_1 10)), ((strOfNums y1351) ++ x3_1), (by first | rfl | (simp; done) | (simp [*]; done)), (by first | rfl | (simp; done) | (simp [*]; done)), H', ⟨by have := HK1.out; omega⟩, ⟨by repeat (first | (with_reducible first | exact HB.out | apply bwA | apply pwN | apply bw1) | exact HB.out)⟩⟩
     ·rw [if_neg c4] at H
      exact absurd H (by simp)
    ·rw [if_neg c3] at H
     have c3b0 : decide (0 < x0_1) = false := decide_eq_false c3
     clear c3
     by_cases c8 : 1 + x3_1.size ≤ 9223372036854775807
     ·rw [if_pos c8] at H
      have c8b0 := eq_true c8
      have c8b1 : decide (1 + x3_1.size ≤ 9223372036854775807) = true := decide_eq_true c8
      try have c8b2 : (9223372036854775807 < 1 + x3_1.size) = False := eq_false (Nat.not_lt.2 c8)
      obtain rfl := Option.some.inj H
      go_wp2
      go_ret
      exact ⟨by first | rfl | (simp [errW_none, errW_some] <;> rfl) | (simp [*, errW_none, errW_some] <;> rfl), by repeat (first | (with_reducible first | exact HB.out | apply bwA | apply pwN | apply bw1) | exact HB.out)⟩
     ·rw [if_neg c8] at H
      exact absurd H (by simp)
def laws_markStringS.l0 : Nat → List ByteArray → Int → Int → Option (Int × List ByteArray)
 | 0, _, _, _ => none
 | k + 1, x0, x1, x5 => if x5 < (x0.length : Int) then ((laws_markText.f k x1).bind fun t1354 => (if 0 ≤ x5 then (laws_markStringS.l0 k (x0.set (x5 : Int).toNat t1354) (wrap64 (x1 + 1)) (wrap64 (x5 + 1))) else (none))) else (some (x1, x0))
def laws_markStringS.f (k : Nat) (l0 : List ByteArray) (a1 : Int) : Option (Int × List ByteArray) := laws_markStringS.l0 k l0 a1 0
set_option maxHeartbeats 8000000 in
set_option maxRecDepth 100000 in
theorem laws_markStringS.calls (k : Nat) (P0_ : Nat → Prop) (u9000_ : Value) (l0 : List ByteArray) (a1 : Int) (r1 : Int) (r2 : List ByteArray) (w0 w : World) (hB : Below w0.heap.size w0 w) (ho0 : Kd.R Kd.string 9 w w0.heap.size P0_ u9000_ l0) (h : laws_markStringS.f k l0 a1 = some (r1, r2)) :
  Calls Tryd.prog 46 #[u9000_, .int .i64 a1] w fun e w' => e = .returned (.int .i64 r1) ∧ Kd.R Kd.string 9 w' w0.heap.size (fun k_ => (P0_ k_ ∨ w.heap.size ≤ k_)) u9000_ r2 ∧ Below w0.heap.size w0 w' ∧ Kept w w' (fun k_ => P0_ k_) := by
 have HO0 := Aside0.mk (show Kd.R Kd.string 9 w w0.heap.size (fun k_ => (P0_ k_ ∨ w.heap.size ≤ k_)) u9000_ l0 from Kd.R_mono ho0 (fun k_ hk => (.inl hk)))
 have HK := Aside0.mk (Kept.refl w (fun k_ => P0_ k_))
 have HW0 := Aside0.mk hB.size
 have HB := Aside0.mk hB
 clear hB
 have H : (laws_markStringS.l0 k l0 a1 0) = some (r1, r2) := h
 clear h
 have H' := Aside0.mk H
 clear H
 go_enter Tryd.func46, Tryd.ntmps46
 go_wp2
 go_loopg [1, 5] k (fun kq v1 v5 w' => ∃ (x0_1 : List ByteArray) (x1_1 : Int) (x5_1 : Int), v1 = .int .i64 x1_1 ∧ v5 = .int .i64 x5_1 ∧ Aside0 (laws_markStringS.l0 kq x0_1 x1_1 x5_1 = some (r1, r2)) ∧ Aside0 (kq ≤ k) ∧ Aside0 (Kd.R Kd.string 9 w' w0.heap.size (fun k_ => (P0_ k_ ∨ w.heap.size ≤ k_)) u9000_ x0_1) ∧ Aside0 (Kept w w' (fun k_ => P0_ k_)) ∧ Aside0 (Below w0.heap.size w0 w'))
 case atStart => exact ⟨(l0), (a1), (0), (by first | rfl | (simp; done) | (simp [*]; done)), (by first | rfl | (simp; done) | (simp [*]; done)), H', ⟨Nat.le_refl _⟩, ⟨by (with_reducible repeat (first | apply Kd.R_alloc | apply Kd.R_drewN | apply Kd.R_drew)); exact HO0.out⟩, ⟨by repeat (first | (with_reducible first | exact HK.out | apply Kept.alloc | apply Kept.drewN | apply Kept.drew) | exact HK.out)⟩, ⟨by repeat (first | (with_reducible first | exact HB.out | apply bwA | apply pwN | apply bw1) | exact HB.out)⟩⟩
 case round =>
  clear H'
  try clear p2
  obtain ⟨x0_1, x1_1, x5_1, rfl, rfl, HA, HK1, HO_0, HK, HB⟩ := hrel
  cases gk with
  | zero => exact absurd HA.out (by simp [laws_markStringS.l0])
  | succ k1 =>
   have H := HA.out
   clear HA
   simp only [laws_markStringS.l0] at H
   by_cases c3 : x5_1 < (x0_1.length : Int)
   ·rw [if_pos c3] at H
    have c3b0 : decide (x5_1 < (x0_1.length : Int)) = true := decide_eq_true c3
    clear c3
    replace H := Option.bind_eq_some_iff.mp H
    obtain ⟨t1354, A40, H⟩ := H
    (try dsimp only at H)
    have A4 := Aside0.mk A40
    clear A40
    by_cases c5 : 0 ≤ x5_1
    ·rw [if_pos c5] at H
     have c5b0 : decide (0 ≤ x5_1) = true := decide_eq_true c5
     clear c5
     obtain ⟨y1355, hy1355⟩ : ∃ y_ : List ByteArray, y_ = (x0_1.set (x5_1 : Int).toNat t1354) := ⟨_, rfl⟩
     replace H : (laws_markStringS.l0 k1 y1355 (wrap64 (x1_1 + 1)) (wrap64 (x5_1 + 1))) = some (r1, r2) := by first | (rw [hy1355]; with_reducible exact H) | (have H2_ := (Option.bind_some _ _).symm.trans H; rw [hy1355]; with_reducible exact H2_) | (have H2_ := (Option.bind_some _ _).symm.trans H; with_reducible exact H2_) | with_reducible exact H | (rw [hy1355]; exact H) | exact H
     have Ny1355 := Aside0.mk hy1355
     clear hy1355
     have H' := Aside0.mk H
     clear H
     obtain ⟨Ao7, co7, eo7⟩ := Kd.R_slice HO_0.out
     subst eo7
     go_wp2_with (first | ((with_reducible refine gate_callee (f := 95) rfl ?_); refine goesL_ (some 15) rfl rfl Tryd.func95 (by kernel_rfl) rfl #[.int .i64 x1_1] rfl (by (try simp only [List.map_toArray, List.map_cons, List.map_nil]); first | done | rfl | (simp only [List.length_drop, List.length_take]; rfl)) ?_; (with_reducible refine (laws_markText.calls k1 x1_1 t1354 _ A4.out).mono ?_); rintro e w8 ⟨rfl, hb⟩; refine ⟨_, rfl, ?_⟩; have n0_ := Aside0.mk (Kd.R_below (by (with_reducible repeat (first | apply Kd.R_alloc | apply Kd.R_drewN | apply Kd.R_drew)); exact HO_0.out) hb); have n1_ := Aside0.mk (Kept.below (S := (fun k_ => P0_ k_)) (by repeat (first | (with_reducible first | exact HK.out | apply Kept.alloc | apply Kept.drewN | apply Kept.drew) | exact HK.out)) hb); have n2_ := Aside0.mk (below_step (by repeat (first | (with_reducible first | exact HB.out | apply bwA | apply pwN | apply bw1) | exact HB.out)) hb); clear HO_0; clear HK; clear HB; have HO_0 := n0_; have HK := n1_; have HB := n2_; clear n0_ n1_ n2_; (try clear hb); (try clear hb2); (try clear hk); (try clear hi); have p6 : 0 ≤ (x5_1 : Int) := of_decide_eq_true (by first | (with_reducible assumption) | assumption); have q6 : (x5_1 : Int) < ((x0_1.length : Int) : Int) := of_decide_eq_true (by first | (with_reducible assumption) | assumption); obtain ⟨go6, co6, eo6, gb6, gl6, cl6, HG6⟩ := Kd.R_form HO_0.out (by omega); (first | cases eo6 | (injection eo6 with ea_ en_ ec_; (first | subst ea_ | (injection ea_ with ea_; subst ea_)); subst ec_; clear en_)); have GB6 := Aside0.mk gb6; have GG6 := Aside0.mk HG6; clear gb6 gl6 HG6; have HMgo6 := Aside0.mk (show (P0_ go6 ∨ w.heap.size ≤ go6) from (HO_0.out.1 _ rfl)); obtain ⟨hx6_0, hf6_0⟩ := Kd.R_celln (⟨#[]⟩ : ByteArray) HO_0.out (x5_1 : Int) p6 q6; replace p6 := eq_true p6; replace q6 := eq_true q6; obtain ⟨hy9_, hz9_⟩ := Kd.R_celln (⟨#[]⟩ : ByteArray) HO_0.out (x5_1 : Int) (of_decide_eq_true (by first | (with_reducible assumption) | assumption)) (of_decide_eq_true (by first | (with_reducible assumption) | assumption)); have HP9 := Kd.R_putg HO_0.out (x5_1 : Int) t1354) | ((with_reducible refine gate_store (t := 9) (p := 16) rfl ?_); refine store_event (t := 9) (p := 16) (v := ?vo_w10) (w1 := (w8.setCell ⟨go6, (x5_1 : Int).toNat, none⟩ (.string t1354))) ?hg ?ho ?hn ?hr ?_; (case ho => rfl); (case hg => rfl); (case hn => rfl); (case hr => first | (go_simp; done) | (go_simp; rfl)); intro w10 hw; have hg : w8.grownBy w10 (some go6) := (by rw [hw]; exact HP9.2); have hp_ : Kd.R Kd.string 9 w10 w0.heap.size (fun k_ => (P0_ k_ ∨ w.heap.size ≤ k_)) (.slice (some ⟨go6, 0, none⟩) x0_1.length co7) y1355 := (by rw [hw, Ny1355.out]; exact HP9.1); clear HP9; have n0_ := Aside0.mk (hp_); have n1_ := Aside0.mk ((by rw [hw]; exact below_set (HB.out) GB6.out : Below w0.heap.size w0 w10)); have n2_ := Aside0.mk (Kept.of_grown (S := (fun k_ => P0_ k_)) hg (by repeat (first | (with_reducible first | exact HK.out | apply Kept.alloc | apply Kept.drewN | apply Kept.drew) | exact HK.out)) (fun k_ e_ => (HO_0.out.1 k_ e_))); clear HO_0; clear HB; clear HK; have HO_0 := n0_; have HB := n1_; have HK := n2_; clear n0_ n1_ n2_; clear hg hw hp_))
     go_roundg k1
     case measure => have := HK1.out; omega
     case rel => exact ⟨(y1355), (wrap64 (x1_1 + 1)), (wrap64 (x5_1 + 1)), (by first | rfl | (simp; done) | (simp [*]; done)), (by first | rfl | (simp; done) | (simp [*]; done)), H', ⟨by have := HK1.out; omega⟩, ⟨by (with_reducible repeat (first | apply Kd.R_alloc | apply Kd.R_drewN | apply Kd.R_drew)); exact HO_0.out⟩, ⟨by repeat (first | (with_reducible first | exact HK.out | apply Kept.alloc | apply Kept.drewN | apply Kept.drew) | exact HK.out)⟩, ⟨by repeat (first | (with_reducible first | exact HB.out | apply bwA | apply pwN | apply bw1) | exact HB.out)⟩⟩
    ·rw [if_neg c5] at H
     exact absurd H (by simp)
   ·rw [if_neg c3] at H
    have c3b0 : decide (x5_1 < (x0_1.length : Int)) = false := decide_eq_false c3
    clear c3
    simp only [Option.some.injEq, Prod.mk.injEq] at H
    obtain ⟨rfl, rfl⟩ := H
    obtain ⟨Ao11, co11, eo11⟩ := Kd.R_slice HO_0.out
    subst eo11
    go_wp2
    go_ret
    exact ⟨by first | rfl | (simp [errW_none, errW_some] <;> rfl) | (simp [*, errW_none, errW_some] <;> rfl), by (with_reducible repeat (first | apply Kd.R_alloc | apply Kd.R_drewN | apply Kd.R_drew)); exact HO_0.out, by repeat (first | (with_reducible first | exact HB.out | apply bwA | apply pwN | apply bw1) | exact HB.out), by repeat (first | (with_reducible first | exact HK.out | apply Kept.alloc | apply Kept.drewN | apply Kept.drew) | exact HK.out)⟩
end Go.Proofs.YticjkfacdmmopaaDoor.Q
namespace Go.Proofs.YticjkfacdmmopaaDoor.Ext
end Go.Proofs.YticjkfacdmmopaaDoor.Ext
namespace Go.Proofs.YticjkfacdmmopaaDoor.Q
open Go.Proofs.YticjkfacdmmopaaDoor.Ext
open Go.RowKit Go.Proofs.YticjkfacdmmopaaDoorW.PrintWords Go.Proofs.YticjkfacdmmopaaDoorW.PrintLast Go.Proofs.YticjkfacdmmopaaDoorW.PrintMore
attribute [local go_sem] max2_int min2_int max_two min_two max_three min_three max_four min_four
set_option linter.unusedVariables false
set_option linter.unusedSimpArgs false
mutual
def laws_FnExactFillWord.j0 : Nat → ByteArray → ByteArray → List ByteArray → Int → Int → List Int → Int → List ByteArray → List Int → Int → Bool → Int → Int → Int → Int → Int → Int → Int → Int → Int → Int → Int → Int → Int → Int → Int → Int → Int → Int → Int → Int → Int → Int → Int → Int → Int → Int → Int → Int → List (S139) → Int → Int → Int → Int → Int → Int → Int → Int → Int → Int → Int → Int → Int → Int → Int → Int → Int → Int → Int → Int → Int → Int → Int → Int → Int → Int → Int → Int → List (S137) → Option (Bool)
 | 0, _, _, _, _, _, _, _, _, _, _, _, _, _, _, _, _, _, _, _, _, _, _, _, _, _, _, _, _, _, _, _, _, _, _, _, _, _, _, _, _, _, _, _, _, _, _, _, _, _, _, _, _, _, _, _, _, _, _, _, _, _, _, _, _, _, _, _, _, _ => none
 | k + 1, x1, x2, x3, x4, x5, x14, x15, x17, x18, x19, x75, x1357000, x1357001, x1357002, x1357003, x1357004, x1357005, x1357006, x1357007, x1357008, x1357009, x1357010, x1357011, x1357012, x1357013, x1357014, x1357015, x1357016, x1357017, x1357018, x1357019, x1357020, x1357021, x1357022, x1357023, x1357024, x1357025, x1357026, x1357027, x1357028, x1429000, x1429001, x1429002, x1429003, x1429004, x1429005, x1429006, x1429007, x1429008, x1429009, x1429010, x1429011, x1429012, x1429013, x1429014, x1429015, x1429016, x1429017, x1429018, x1429019, x1429020, x1429021, x1429022, x1429023, x1429024, x1429025, x1429026, x1429027, x1429028 => if x75 = true then (some false) else ((laws_toFace.f x1357000 x1357001 x1357002 x1357003 x1357004 x1357005 x1357006 x1357007 x1357008 x1357009 x1357010 x1357011 x1357012 x1357013 x1357014 x1357015 x1357016 x1357017 x1357018 x1357019 x1357020 x1357021 x1357022 x1357023 x1357024 x1357025 x1357026 x1357027 x1357028).bind fun bt1437 => ((laws_eqFace.f x1429000 x1429001 x1429002 x1429003 x1429004 x1429005 x1429006 x1429007 x1429008 x1429009 x1429010 x1429011 x1429012 x1429013 x1429014 x1429015 x1429016 x1429017 x1429018 x1429019 x1429020 x1429021 x1429022 x1429023 x1429024 x1429025 x1429026 x1429027 x1429028 bt1437.1 bt1437.2.1 bt1437.2.2.1 bt1437.2.2.2.1 bt1437.2.2.2.2.1 bt1437.2.2.2.2.2.1 bt1437.2.2.2.2.2.2.1 bt1437.2.2.2.2.2.2.2.1 bt1437.2.2.2.2.2.2.2.2.1 bt1437.2.2.2.2.2.2.2.2.2.1 bt1437.2.2.2.2.2.2.2.2.2.2.1 bt1437.2.2.2.2.2.2.2.2.2.2.2.1 bt1437.2.2.2.2.2.2.2.2.2.2.2.2.1 bt1437.2.2.2.2.2.2.2.2.2.2.2.2.2.1 bt1437.2.2.2.2.2.2.2.2.2.2.2.2.2.2.1 bt1437.2.2.2.2.2.2.2.2.2.2.2.2.2.2.2.1 bt1437.2.2.2.2.2.2.2.2.2.2.2.2.2.2.2.2.1 bt1437.2.2.2.2.2.2.2.2.2.2.2.2.2.2.2.2.2.1 bt1437.2.2.2.2.2.2.2.2.2.2.2.2.2.2.2.2.2.2.1 bt1437.2.2.2.2.2.2.2.2.2.2.2.2.2.2.2.2.2.2.2.1 bt1437.2.2.2.2.2.2.2.2.2.2.2.2.2.2.2.2.2.2.2.2.1 bt1437.2.2.2.2.2.2.2.2.2.2.2.2.2.2.2.2.2.2.2.2.2.1 bt1437.2.2.2.2.2.2.2.2.2.2.2.2.2.2.2.2.2.2.2.2.2.2.1 bt1437.2.2.2.2.2.2.2.2.2.2.2.2.2.2.2.2.2.2.2.2.2.2.2.1 bt1437.2.2.2.2.2.2.2.2.2.2.2.2.2.2.2.2.2.2.2.2.2.2.2.2.1 bt1437.2.2.2.2.2.2.2.2.2.2.2.2.2.2.2.2.2.2.2.2.2.2.2.2.2.1 bt1437.2.2.2.2.2.2.2.2.2.2.2.2.2.2.2.2.2.2.2.2.2.2.2.2.2.2.1 bt1437.2.2.2.2.2.2.2.2.2.2.2.2.2.2.2.2.2.2.2.2.2.2.2.2.2.2.2.1 bt1437.2.2.2.2.2.2.2.2.2.2.2.2.2.2.2.2.2.2.2.2.2.2.2.2.2.2.2.2).bind fun t1468 => (if t1468 = true then ((laws_toStringS.f k x3).bind fun t1469 => ((laws_eqStringS.f k x17 t1469).bind fun t1472 => (if t1472 = true then ((laws_markFace.f k x1429000 x1429001 x1429002 x1429003 x1429004 x1429005 x1429006 x1429007 x1429008 x1429009 x1429010 x1429011 x1429012 x1429013 x1429014 x1429015 x1429016 x1429017 x1429018 x1429019 x1429020 x1429021 x1429022 x1429023 x1429024 x1429025 x1429026 x1429027 x1429028 1).bind fun bt1473 => ((laws_markStringS.f k x17 bt1473.1).bind fun bt1475 => (if bt1475.1 < 0 then (laws_FnExactFillWord.j1 k x1 x2 x3 x4 x5 x14 x15 x18 true x1357000 x1357001 x1357002 x1357003 x1357004 x1357005 x1357006 x1357007 x1357008 x1357009 x1357010 x1357011 x1357012 x1357013 x1357014 x1357015 x1357016 x1357017 x1357018 x1357019 x1357020 x1357021 x1357022 x1357023 x1357024 x1357025 x1357026 x1357027 x1357028) else ((laws_eqInt64S.f k x18 x14).bind fun t1477 => (if t1477 = true then (laws_FnExactFillWord.j1 k x1 x2 x3 x4 x5 x14 x15 x18 (x19 != x15) x1357000 x1357001 x1357002 x1357003 x1357004 x1357005 x1357006 x1357007 x1357008 x1357009 x1357010 x1357011 x1357012 x1357013 x1357014 x1357015 x1357016 x1357017 x1357018 x1357019 x1357020 x1357021 x1357022 x1357023 x1357024 x1357025 x1357026 x1357027 x1357028) else (laws_FnExactFillWord.j1 k x1 x2 x3 x4 x5 x14 x15 x18 true x1357000 x1357001 x1357002 x1357003 x1357004 x1357005 x1357006 x1357007 x1357008 x1357009 x1357010 x1357011 x1357012 x1357013 x1357014 x1357015 x1357016 x1357017 x1357018 x1357019 x1357020 x1357021 x1357022 x1357023 x1357024 x1357025 x1357026 x1357027 x1357028)))))) else (some false)))) else (some false))))
def laws_FnExactFillWord.j1 : Nat → ByteArray → ByteArray → List ByteArray → Int → Int → List Int → Int → List Int → Bool → Int → Int → Int → Int → Int → Int → Int → Int → Int → Int → Int → Int → Int → Int → Int → Int → Int → Int → Int → Int → Int → Int → Int → Int → Int → Int → Int → Int → List (S139) → Option (Bool)
 | 0, _, _, _, _, _, _, _, _, _, _, _, _, _, _, _, _, _, _, _, _, _, _, _, _, _, _, _, _, _, _, _, _, _, _, _, _, _, _ => none
 | k + 1, x1, x2, x3, x4, x5, x14, x15, x18, x104, x1357000, x1357001, x1357002, x1357003, x1357004, x1357005, x1357006, x1357007, x1357008, x1357009, x1357010, x1357011, x1357012, x1357013, x1357014, x1357015, x1357016, x1357017, x1357018, x1357019, x1357020, x1357021, x1357022, x1357023, x1357024, x1357025, x1357026, x1357027, x1357028 => if x104 = true then (some false) else ((laws_markInt64S.f k x18 1).bind fun bt1478 => ((laws_heldInt64S.f k bt1478.2 1).bind fun t1480 => (if t1480 < 0 then (some false) else (if t1480 = bt1478.1 then ((laws_toFace.f x1357000 x1357001 x1357002 x1357003 x1357004 x1357005 x1357006 x1357007 x1357008 x1357009 x1357010 x1357011 x1357012 x1357013 x1357014 x1357015 x1357016 x1357017 x1357018 x1357019 x1357020 x1357021 x1357022 x1357023 x1357024 x1357025 x1357026 x1357027 x1357028).bind fun bt1481 => ((laws_toStringS.f k x3).bind fun t1512 => ((impl_FillWord.f bt1481.1 bt1481.2.1 bt1481.2.2.1 bt1481.2.2.2.1 bt1481.2.2.2.2.1 bt1481.2.2.2.2.2.1 bt1481.2.2.2.2.2.2.1 bt1481.2.2.2.2.2.2.2.1 bt1481.2.2.2.2.2.2.2.2.1 bt1481.2.2.2.2.2.2.2.2.2.1 bt1481.2.2.2.2.2.2.2.2.2.2.1 bt1481.2.2.2.2.2.2.2.2.2.2.2.1 bt1481.2.2.2.2.2.2.2.2.2.2.2.2.1 bt1481.2.2.2.2.2.2.2.2.2.2.2.2.2.1 bt1481.2.2.2.2.2.2.2.2.2.2.2.2.2.2.1 bt1481.2.2.2.2.2.2.2.2.2.2.2.2.2.2.2.1 bt1481.2.2.2.2.2.2.2.2.2.2.2.2.2.2.2.2.1 bt1481.2.2.2.2.2.2.2.2.2.2.2.2.2.2.2.2.2.1 bt1481.2.2.2.2.2.2.2.2.2.2.2.2.2.2.2.2.2.2.1 bt1481.2.2.2.2.2.2.2.2.2.2.2.2.2.2.2.2.2.2.2.1 bt1481.2.2.2.2.2.2.2.2.2.2.2.2.2.2.2.2.2.2.2.2.1 bt1481.2.2.2.2.2.2.2.2.2.2.2.2.2.2.2.2.2.2.2.2.2.1 bt1481.2.2.2.2.2.2.2.2.2.2.2.2.2.2.2.2.2.2.2.2.2.2.1 bt1481.2.2.2.2.2.2.2.2.2.2.2.2.2.2.2.2.2.2.2.2.2.2.2.1 bt1481.2.2.2.2.2.2.2.2.2.2.2.2.2.2.2.2.2.2.2.2.2.2.2.2.1 bt1481.2.2.2.2.2.2.2.2.2.2.2.2.2.2.2.2.2.2.2.2.2.2.2.2.2.1 bt1481.2.2.2.2.2.2.2.2.2.2.2.2.2.2.2.2.2.2.2.2.2.2.2.2.2.2.1 bt1481.2.2.2.2.2.2.2.2.2.2.2.2.2.2.2.2.2.2.2.2.2.2.2.2.2.2.2.1 bt1481.2.2.2.2.2.2.2.2.2.2.2.2.2.2.2.2.2.2.2.2.2.2.2.2.2.2.2.2 x1 x2 t1512 x4 x5).bind fun bt1515 => ((laws_eqInt64S.f k bt1515.1 x14).bind fun t1519 => (if t1519 = true then (laws_FnExactFillWord.j2 k bt1478.2 bt1478.1 (bt1515.2 != x15)) else (laws_FnExactFillWord.j2 k bt1478.2 bt1478.1 true)))))) else (some false)))))
def laws_FnExactFillWord.j2 : Nat → List Int → Int → Bool → Option (Bool)
 | 0, _, _, _ => none
 | k + 1, x18, x21, x136 => if x136 = true then (some false) else ((laws_heldInt64S.f k x18 1).bind fun t1520 => (if t1520 < 0 then (some false) else (if t1520 = x21 then (some true) else (some false))))
end
def laws_FnExactFillWord.f (k : Nat) (F0 F1 F2 F3 F4 F5 F6 F7 F8 F9 F10 F11 F12 F13 F14 F15 F16 F17 F18 F19 F20 F21 F22 F23 F24 F25 F26 F27 : Int) (l0_28 : List (S139)) (a1 : ByteArray) (a2 : ByteArray) (l3 : List ByteArray) (a4 : Int) (a5 : Int) : Option (Bool) := if (a1.size : Int) > 1048576 then (some true) else (if (a2.size : Int) > 1048576 then (some true) else ((laws_szFace.f F0 F1 F2 F3 F4 F5 F6 F7 F8 F9 F10 F11 F12 F13 F14 F15 F16 F17 F18 F19 F20 F21 F22 F23 F24 F25 F26 F27 l0_28 1048576).bind fun t1357 => (if t1357 < 0 then (some true) else ((laws_szStringS.f k l3 t1357).bind fun t1358 => (if t1358 < 0 then (some true) else ((laws_toFace.f F0 F1 F2 F3 F4 F5 F6 F7 F8 F9 F10 F11 F12 F13 F14 F15 F16 F17 F18 F19 F20 F21 F22 F23 F24 F25 F26 F27 l0_28).bind fun bt1359 => ((laws_toStringS.f k l3).bind fun t1390 => ((spec_FillWord.f k bt1359.1 bt1359.2.1 bt1359.2.2.1 bt1359.2.2.2.1 bt1359.2.2.2.2.1 bt1359.2.2.2.2.2.1 bt1359.2.2.2.2.2.2.1 bt1359.2.2.2.2.2.2.2.1 bt1359.2.2.2.2.2.2.2.2.1 bt1359.2.2.2.2.2.2.2.2.2.1 bt1359.2.2.2.2.2.2.2.2.2.2.1 bt1359.2.2.2.2.2.2.2.2.2.2.2.1 bt1359.2.2.2.2.2.2.2.2.2.2.2.2.1 bt1359.2.2.2.2.2.2.2.2.2.2.2.2.2.1 bt1359.2.2.2.2.2.2.2.2.2.2.2.2.2.2.1 bt1359.2.2.2.2.2.2.2.2.2.2.2.2.2.2.2.1 bt1359.2.2.2.2.2.2.2.2.2.2.2.2.2.2.2.2.1 bt1359.2.2.2.2.2.2.2.2.2.2.2.2.2.2.2.2.2.1 bt1359.2.2.2.2.2.2.2.2.2.2.2.2.2.2.2.2.2.2.1 bt1359.2.2.2.2.2.2.2.2.2.2.2.2.2.2.2.2.2.2.2.1 bt1359.2.2.2.2.2.2.2.2.2.2.2.2.2.2.2.2.2.2.2.2.1 bt1359.2.2.2.2.2.2.2.2.2.2.2.2.2.2.2.2.2.2.2.2.2.1 bt1359.2.2.2.2.2.2.2.2.2.2.2.2.2.2.2.2.2.2.2.2.2.2.1 bt1359.2.2.2.2.2.2.2.2.2.2.2.2.2.2.2.2.2.2.2.2.2.2.2.1 bt1359.2.2.2.2.2.2.2.2.2.2.2.2.2.2.2.2.2.2.2.2.2.2.2.2.1 bt1359.2.2.2.2.2.2.2.2.2.2.2.2.2.2.2.2.2.2.2.2.2.2.2.2.2.1 bt1359.2.2.2.2.2.2.2.2.2.2.2.2.2.2.2.2.2.2.2.2.2.2.2.2.2.2.1 bt1359.2.2.2.2.2.2.2.2.2.2.2.2.2.2.2.2.2.2.2.2.2.2.2.2.2.2.2.1 bt1359.2.2.2.2.2.2.2.2.2.2.2.2.2.2.2.2.2.2.2.2.2.2.2.2.2.2.2.2 a1 a2 t1390 a4 a5).bind fun bt1393 => ((laws_toFace.f F0 F1 F2 F3 F4 F5 F6 F7 F8 F9 F10 F11 F12 F13 F14 F15 F16 F17 F18 F19 F20 F21 F22 F23 F24 F25 F26 F27 l0_28).bind fun bt1397 => ((laws_toStringS.f k l3).bind fun t1429 => ((impl_FillWord.f bt1397.1 bt1397.2.1 bt1397.2.2.1 bt1397.2.2.2.1 bt1397.2.2.2.2.1 bt1397.2.2.2.2.2.1 bt1397.2.2.2.2.2.2.1 bt1397.2.2.2.2.2.2.2.1 bt1397.2.2.2.2.2.2.2.2.1 bt1397.2.2.2.2.2.2.2.2.2.1 bt1397.2.2.2.2.2.2.2.2.2.2.1 bt1397.2.2.2.2.2.2.2.2.2.2.2.1 bt1397.2.2.2.2.2.2.2.2.2.2.2.2.1 bt1397.2.2.2.2.2.2.2.2.2.2.2.2.2.1 bt1397.2.2.2.2.2.2.2.2.2.2.2.2.2.2.1 bt1397.2.2.2.2.2.2.2.2.2.2.2.2.2.2.2.1 bt1397.2.2.2.2.2.2.2.2.2.2.2.2.2.2.2.2.1 bt1397.2.2.2.2.2.2.2.2.2.2.2.2.2.2.2.2.2.1 bt1397.2.2.2.2.2.2.2.2.2.2.2.2.2.2.2.2.2.2.1 bt1397.2.2.2.2.2.2.2.2.2.2.2.2.2.2.2.2.2.2.2.1 bt1397.2.2.2.2.2.2.2.2.2.2.2.2.2.2.2.2.2.2.2.2.1 bt1397.2.2.2.2.2.2.2.2.2.2.2.2.2.2.2.2.2.2.2.2.2.1 bt1397.2.2.2.2.2.2.2.2.2.2.2.2.2.2.2.2.2.2.2.2.2.2.1 bt1397.2.2.2.2.2.2.2.2.2.2.2.2.2.2.2.2.2.2.2.2.2.2.2.1 bt1397.2.2.2.2.2.2.2.2.2.2.2.2.2.2.2.2.2.2.2.2.2.2.2.2.1 bt1397.2.2.2.2.2.2.2.2.2.2.2.2.2.2.2.2.2.2.2.2.2.2.2.2.2.1 bt1397.2.2.2.2.2.2.2.2.2.2.2.2.2.2.2.2.2.2.2.2.2.2.2.2.2.2.1 bt1397.2.2.2.2.2.2.2.2.2.2.2.2.2.2.2.2.2.2.2.2.2.2.2.2.2.2.2.1 bt1397.2.2.2.2.2.2.2.2.2.2.2.2.2.2.2.2.2.2.2.2.2.2.2.2.2.2.2.2 a1 a2 t1429 a4 a5).bind fun bt1432 => ((laws_eqInt64S.f k bt1432.1 bt1393.1).bind fun t1436 => (if t1436 = true then (laws_FnExactFillWord.j0 k a1 a2 l3 a4 a5 bt1393.1 bt1393.2 t1429 bt1432.1 bt1432.2 (bt1432.2 != bt1393.2) F0 F1 F2 F3 F4 F5 F6 F7 F8 F9 F10 F11 F12 F13 F14 F15 F16 F17 F18 F19 F20 F21 F22 F23 F24 F25 F26 F27 l0_28 bt1397.1 bt1397.2.1 bt1397.2.2.1 bt1397.2.2.2.1 bt1397.2.2.2.2.1 bt1397.2.2.2.2.2.1 bt1397.2.2.2.2.2.2.1 bt1397.2.2.2.2.2.2.2.1 bt1397.2.2.2.2.2.2.2.2.1 bt1397.2.2.2.2.2.2.2.2.2.1 bt1397.2.2.2.2.2.2.2.2.2.2.1 bt1397.2.2.2.2.2.2.2.2.2.2.2.1 bt1397.2.2.2.2.2.2.2.2.2.2.2.2.1 bt1397.2.2.2.2.2.2.2.2.2.2.2.2.2.1 bt1397.2.2.2.2.2.2.2.2.2.2.2.2.2.2.1 bt1397.2.2.2.2.2.2.2.2.2.2.2.2.2.2.2.1 bt1397.2.2.2.2.2.2.2.2.2.2.2.2.2.2.2.2.1 bt1397.2.2.2.2.2.2.2.2.2.2.2.2.2.2.2.2.2.1 bt1397.2.2.2.2.2.2.2.2.2.2.2.2.2.2.2.2.2.2.1 bt1397.2.2.2.2.2.2.2.2.2.2.2.2.2.2.2.2.2.2.2.1 bt1397.2.2.2.2.2.2.2.2.2.2.2.2.2.2.2.2.2.2.2.2.1 bt1397.2.2.2.2.2.2.2.2.2.2.2.2.2.2.2.2.2.2.2.2.2.1 bt1397.2.2.2.2.2.2.2.2.2.2.2.2.2.2.2.2.2.2.2.2.2.2.1 bt1397.2.2.2.2.2.2.2.2.2.2.2.2.2.2.2.2.2.2.2.2.2.2.2.1 bt1397.2.2.2.2.2.2.2.2.2.2.2.2.2.2.2.2.2.2.2.2.2.2.2.2.1 bt1397.2.2.2.2.2.2.2.2.2.2.2.2.2.2.2.2.2.2.2.2.2.2.2.2.2.1 bt1397.2.2.2.2.2.2.2.2.2.2.2.2.2.2.2.2.2.2.2.2.2.2.2.2.2.2.1 bt1397.2.2.2.2.2.2.2.2.2.2.2.2.2.2.2.2.2.2.2.2.2.2.2.2.2.2.2.1 bt1397.2.2.2.2.2.2.2.2.2.2.2.2.2.2.2.2.2.2.2.2.2.2.2.2.2.2.2.2) else (laws_FnExactFillWord.j0 k a1 a2 l3 a4 a5 bt1393.1 bt1393.2 t1429 bt1432.1 bt1432.2 true F0 F1 F2 F3 F4 F5 F6 F7 F8 F9 F10 F11 F12 F13 F14 F15 F16 F17 F18 F19 F20 F21 F22 F23 F24 F25 F26 F27 l0_28 bt1397.1 bt1397.2.1 bt1397.2.2.1 bt1397.2.2.2.1 bt1397.2.2.2.2.1 bt1397.2.2.2.2.2.1 bt1397.2.2.2.2.2.2.1 bt1397.2.2.2.2.2.2.2.1 bt1397.2.2.2.2.2.2.2.2.1 bt1397.2.2.2.2.2.2.2.2.2.1 bt1397.2.2.2.2.2.2.2.2.2.2.1 bt1397.2.2.2.2.2.2.2.2.2.2.2.1 bt1397.2.2.2.2.2.2.2.2.2.2.2.2.1 bt1397.2.2.2.2.2.2.2.2.2.2.2.2.2.1 bt1397.2.2.2.2.2.2.2.2.2.2.2.2.2.2.1 bt1397.2.2.2.2.2.2.2.2.2.2.2.2.2.2.2.1 bt1397.2.2.2.2.2.2.2.2.2.2.2.2.2.2.2.2.1 bt1397.2.2.2.2.2.2.2.2.2.2.2.2.2.2.2.2.2.1 bt1397.2.2.2.2.2.2.2.2.2.2.2.2.2.2.2.2.2.2.1 bt1397.2.2.2.2.2.2.2.2.2.2.2.2.2.2.2.2.2.2.2.1 bt1397.2.2.2.2.2.2.2.2.2.2.2.2.2.2.2.2.2.2.2.2.1 bt1397.2.2.2.2.2.2.2.2.2.2.2.2.2.2.2.2.2.2.2.2.2.1 bt1397.2.2.2.2.2.2.2.2.2.2.2.2.2.2.2.2.2.2.2.2.2.2.1 bt1397.2.2.2.2.2.2.2.2.2.2.2.2.2.2.2.2.2.2.2.2.2.2.2.1 bt1397.2.2.2.2.2.2.2.2.2.2.2.2.2.2.2.2.2.2.2.2.2.2.2.2.1 bt1397.2.2.2.2.2.2.2.2.2.2.2.2.2.2.2.2.2.2.2.2.2.2.2.2.2.1 bt1397.2.2.2.2.2.2.2.2.2.2.2.2.2.2.2.2.2.2.2.2.2.2.2.2.2.2.1 bt1397.2.2.2.2.2.2.2.2.2.2.2.2.2.2.2.2.2.2.2.2.2.2.2.2.2.2.2.1 bt1397.2.2.2.2.2.2.2.2.2.2.2.2.2.2.2.2.2.2.2.2.2.2.2.2.2.2.2.2))))))))))))))
set_option maxHeartbeats 8000000 in
set_option maxRecDepth 100000 in
theorem laws_FnExactFillWord.calls (k : Nat) (F0 F1 F2 F3 F4 F5 F6 F7 F8 F9 F10 F11 F12 F13 F14 F15 F16 F17 F18 F19 F20 F21 F22 F23 F24 F25 F26 F27 : Int) (A0_28 : Option Addr) (c0_28 : Nat) (l0_28 : List (S139)) (a1 : ByteArray) (a2 : ByteArray) (A3 : Option Addr) (c3 : Nat) (l3 : List ByteArray) (a4 : Int) (a5 : Int) (r : Bool) (w : World) (hr0_28 : Kd.C k139 w A0_28 l0_28.length l0_28) (hc0_28 : l0_28.length ≤ c0_28) (hr3 : Kd.C Kd.string w A3 l3.length l3) (hc3 : l3.length ≤ c3) (hG : GlobM w) (h : laws_FnExactFillWord.f k F0 F1 F2 F3 F4 F5 F6 F7 F8 F9 F10 F11 F12 F13 F14 F15 F16 F17 F18 F19 F20 F21 F22 F23 F24 F25 F26 F27 l0_28 a1 a2 l3 a4 a5 = some r) :
  Calls Tryd.prog 11 #[.agg #[.int .i8 F0, .int .i8 F1, .int .i8 F2, .int .i8 F3, .int .i8 F4, .int .i8 F5, .int .i8 F6, .int .i8 F7, .int .i8 F8, .int .i8 F9, .int .i8 F10, .int .i8 F11, .int .i8 F12, .int .i8 F13, .int .i8 F14, .int .i8 F15, .int .i8 F16, .int .i8 F17, .int .i8 F18, .int .i8 F19, .int .i8 F20, .int .i8 F21, .int .i8 F22, .int .i8 F23, .int .i8 F24, .int .i8 F25, .int .i8 F26, .int .i8 F27, .slice A0_28 l0_28.length c0_28], .string a1, .string a2, .slice A3 l3.length c3, .int .i64 a4, .int .i64 a5] w fun e w' => e = .returned (.bool r) ∧ Below w.heap.size w w' := by
 have HG := Aside0.mk hG
 clear hG
 have hu26 := Tryd.underlying26
 have hu32 := Tryd.underlying32
 have HR0_28 := Aside0.mk hr0_28
 have HC0_28 := Aside0.mk hc0_28
 clear hr0_28 hc0_28
 have HR3 := Aside0.mk hr3
 have HC3 := Aside0.mk hc3
 clear hr3 hc3
 have HB := Aside0.mk (Below.refl w.heap.size w)
 have H : (if (a1.size : Int) > 1048576 then (some true) else (if (a2.size : Int) > 1048576 then (some true) else ((laws_szFace.f F0 F1 F2 F3 F4 F5 F6 F7 F8 F9 F10 F11 F12 F13 F14 F15 F16 F17 F18 F19 F20 F21 F22 F23 F24 F25 F26 F27 l0_28 1048576).bind fun t1357 => (if t1357 < 0 then (some true) else ((laws_szStringS.f k l3 t1357).bind fun t1358 => (if t1358 < 0 then (some true) else ((laws_toFace.f F0 F1 F2 F3 F4 F5 F6 F7 F8 F9 F10 F11 F12 F13 F14 F15 F16 F17 F18 F19 F20 F21 F22 F23 F24 F25 F26 F27 l0_28).bind fun bt1359 => ((laws_toStringS.f k l3).bind fun t1390 => ((spec_FillWord.f k bt1359.1 bt1359.2.1 bt1359.2.2.1 bt1359.2.2.2.1 bt1359.2.2.2.2.1 bt1359.2.2.2.2.2.1 bt1359.2.2.2.2.2.2.1 bt1359.2.2.2.2.2.2.2.1 bt1359.2.2.2.2.2.2.2.2.1 bt1359.2.2.2.2.2.2.2.2.2.1 bt1359.2.2.2.2.2.2.2.2.2.2.1 bt1359.2.2.2.2.2.2.2.2.2.2.2.1 bt1359.2.2.2.2.2.2.2.2.2.2.2.2.1 bt1359.2.2.2.2.2.2.2.2.2.2.2.2.2.1 bt1359.2.2.2.2.2.2.2.2.2.2.2.2.2.2.1 bt1359.2.2.2.2.2.2.2.2.2.2.2.2.2.2.2.1 bt1359.2.2.2.2.2.2.2.2.2.2.2.2.2.2.2.2.1 bt1359.2.2.2.2.2.2.2.2.2.2.2.2.2.2.2.2.2.1 bt1359.2.2.2.2.2.2.2.2.2.2.2.2.2.2.2.2.2.2.1 bt1359.2.2.2.2.2.2.2.2.2.2.2.2.2.2.2.2.2.2.2.1 bt1359.2.2.2.2.2.2.2.2.2.2.2.2.2.2.2.2.2.2.2.2.1 bt1359.2.2.2.2.2.2.2.2.2.2.2.2.2.2.2.2.2.2.2.2.2.1 bt1359.2.2.2.2.2.2.2.2.2.2.2.2.2.2.2.2.2.2.2.2.2.2.1 bt1359.2.2.2.2.2.2.2.2.2.2.2.2.2.2.2.2.2.2.2.2.2.2.2.1 bt1359.2.2.2.2.2.2.2.2.2.2.2.2.2.2.2.2.2.2.2.2.2.2.2.2.1 bt1359.2.2.2.2.2.2.2.2.2.2.2.2.2.2.2.2.2.2.2.2.2.2.2.2.2.1 bt1359.2.2.2.2.2.2.2.2.2.2.2.2.2.2.2.2.2.2.2.2.2.2.2.2.2.2.1 bt1359.2.2.2.2.2.2.2.2.2.2.2.2.2.2.2.2.2.2.2.2.2.2.2.2.2.2.2.1 bt1359.2.2.2.2.2.2.2.2.2.2.2.2.2.2.2.2.2.2.2.2.2.2.2.2.2.2.2.2 a1 a2 t1390 a4 a5).bind fun bt1393 => ((laws_toFace.f F0 F1 F2 F3 F4 F5 F6 F7 F8 F9 F10 F11 F12 F13 F14 F15 F16 F17 F18 F19 F20 F21 F22 F23 F24 F25 F26 F27 l0_28).bind fun bt1397 => ((laws_toStringS.f k l3).bind fun t1429 => ((impl_FillWord.f bt1397.1 bt1397.2.1 bt1397.2.2.1 bt1397.2.2.2.1 bt1397.2.2.2.2.1 bt1397.2.2.2.2.2.1 bt1397.2.2.2.2.2.2.1 bt1397.2.2.2.2.2.2.2.1 bt1397.2.2.2.2.2.2.2.2.1 bt1397.2.2.2.2.2.2.2.2.2.1 bt1397.2.2.2.2.2.2.2.2.2.2.1 bt1397.2.2.2.2.2.2.2.2.2.2.2.1 bt1397.2.2.2.2.2.2.2.2.2.2.2.2.1 bt1397.2.2.2.2.2.2.2.2.2.2.2.2.2.1 bt1397.2.2.2.2.2.2.2.2.2.2.2.2.2.2.1 bt1397.2.2.2.2.2.2.2.2.2.2.2.2.2.2.2.1 bt1397.2.2.2.2.2.2.2.2.2.2.2.2.2.2.2.2.1 bt1397.2.2.2.2.2.2.2.2.2.2.2.2.2.2.2.2.2.1 bt1397.2.2.2.2.2.2.2.2.2.2.2.2.2.2.2.2.2.2.1 bt1397.2.2.2.2.2.2.2.2.2.2.2.2.2.2.2.2.2.2.2.1 bt1397.2.2.2.2.2.2.2.2.2.2.2.2.2.2.2.2.2.2.2.2.1 bt1397.2.2.2.2.2.2.2.2.2.2.2.2.2.2.2.2.2.2.2.2.2.1 bt1397.2.2.2.2.2.2.2.2.2.2.2.2.2.2.2.2.2.2.2.2.2.2.1 bt1397.2.2.2.2.2.2.2.2.2.2.2.2.2.2.2.2.2.2.2.2.2.2.2.1 bt1397.2.2.2.2.2.2.2.2.2.2.2.2.2.2.2.2.2.2.2.2.2.2.2.2.1 bt1397.2.2.2.2.2.2.2.2.2.2.2.2.2.2.2.2.2.2.2.2.2.2.2.2.2.1 bt1397.2.2.2.2.2.2.2.2.2.2.2.2.2.2.2.2.2.2.2.2.2.2.2.2.2.2.1 bt1397.2.2.2.2.2.2.2.2.2.2.2.2.2.2.2.2.2.2.2.2.2.2.2.2.2.2.2.1 bt1397.2.2.2.2.2.2.2.2.2.2.2.2.2.2.2.2.2.2.2.2.2.2.2.2.2.2.2.2 a1 a2 t1429 a4 a5).bind fun bt1432 => ((laws_eqInt64S.f k bt1432.1 bt1393.1).bind fun t1436 => (if t1436 = true then (laws_FnExactFillWord.j0 k a1 a2 l3 a4 a5 bt1393.1 bt1393.2 t1429 bt1432.1 bt1432.2 (bt1432.2 != bt1393.2) F0 F1 F2 F3 F4 F5 F6 F7 F8 F9 F10 F11 F12 F13 F14 F15 F16 F17 F18 F19 F20 F21 F22 F23 F24 F25 F26 F27 l0_28 bt1397.1 bt1397.2.1 bt1397.2.2.1 bt1397.2.2.2.1 bt1397.2.2.2.2.1 bt1397.2.2.2.2.2.1 bt1397.2.2.2.2.2.2.1 bt1397.2.2.2.2.2.2.2.1 bt1397.2.2.2.2.2.2.2.2.1 bt1397.2.2.2.2.2.2.2.2.2.1 bt1397.2.2.2.2.2.2.2.2.2.2.1 bt1397.2.2.2.2.2.2.2.2.2.2.2.1 bt1397.2.2.2.2.2.2.2.2.2.2.2.2.1 bt1397.2.2.2.2.2.2.2.2.2.2.2.2.2.1 bt1397.2.2.2.2.2.2.2.2.2.2.2.2.2.2.1 bt1397.2.2.2.2.2.2.2.2.2.2.2.2.2.2.2.1 bt1397.2.2.2.2.2.2.2.2.2.2.2.2.2.2.2.2.1 bt1397.2.2.2.2.2.2.2.2.2.2.2.2.2.2.2.2.2.1 bt1397.2.2.2.2.2.2.2.2.2.2.2.2.2.2.2.2.2.2.1 bt1397.2.2.2.2.2.2.2.2.2.2.2.2.2.2.2.2.2.2.2.1 bt1397.2.2.2.2.2.2.2.2.2.2.2.2.2.2.2.2.2.2.2.2.1 bt1397.2.2.2.2.2.2.2.2.2.2.2.2.2.2.2.2.2.2.2.2.2.1 bt1397.2.2.2.2.2.2.2.2.2.2.2.2.2.2.2.2.2.2.2.2.2.2.1 bt1397.2.2.2.2.2.2.2.2.2.2.2.2.2.2.2.2.2.2.2.2.2.2.2.1 bt1397.2.2.2.2.2.2.2.2.2.2.2.2.2.2.2.2.2.2.2.2.2.2.2.2.1 bt1397.2.2.2.2.2.2.2.2.2.2.2.2.2.2.2.2.2.2.2.2.2.2.2.2.2.1 bt1397.2.2.2.2.2.2.2.2.2.2.2.2.2.2.2.2.2.2.2.2.2.2.2.2.2.2.1 bt1397.2.2.2.2.2.2.2.2.2.2.2.2.2.2.2.2.2.2.2.2.2.2.2.2.2.2.2.1 bt1397.2.2.2.2.2.2.2.2.2.2.2.2.2.2.2.2.2.2.2.2.2.2.2.2.2.2.2.2) else (laws_FnExactFillWord.j0 k a1 a2 l3 a4 a5 bt1393.1 bt1393.2 t1429 bt1432.1 bt1432.2 true F0 F1 F2 F3 F4 F5 F6 F7 F8 F9 F10 F11 F12 F13 F14 F15 F16 F17 F18 F19 F20 F21 F22 F23 F24 F25 F26 F27 l0_28 bt1397.1 bt1397.2.1 bt1397.2.2.1 bt1397.2.2.2.1 bt1397.2.2.2.2.1 bt1397.2.2.2.2.2.1 bt1397.2.2.2.2.2.2.1 bt1397.2.2.2.2.2.2.2.1 bt1397.2.2.2.2.2.2.2.2.1 bt1397.2.2.2.2.2.2.2.2.2.1 bt1397.2.2.2.2.2.2.2.2.2.2.1 bt1397.2.2.2.2.2.2.2.2.2.2.2.1 bt1397.2.2.2.2.2.2.2.2.2.2.2.2.1 bt1397.2.2.2.2.2.2.2.2.2.2.2.2.2.1 bt1397.2.2.2.2.2.2.2.2.2.2.2.2.2.2.1 bt1397.2.2.2.2.2.2.2.2.2.2.2.2.2.2.2.1 bt1397.2.2.2.2.2.2.2.2.2.2.2.2.2.2.2.2.1 bt1397.2.2.2.2.2.2.2.2.2.2.2.2.2.2.2.2.2.1 bt1397.2.2.2.2.2.2.2.2.2.2.2.2.2.2.2.2.2.2.1 bt1397.2.2.2.2.2.2.2.2.2.2.2.2.2.2.2.2.2.2.2.1 bt1397.2.2.2.2.2.2.2.2.2.2.2.2.2.2.2.2.2.2.2.2.1 bt1397.2.2.2.2.2.2.2.2.2.2.2.2.2.2.2.2.2.2.2.2.2.1 bt1397.2.2.2.2.2.2.2.2.2.2.2.2.2.2.2.2.2.2.2.2.2.2.1 bt1397.2.2.2.2.2.2.2.2.2.2.2.2.2.2.2.2.2.2.2.2.2.2.2.1 bt1397.2.2.2.2.2.2.2.2.2.2.2.2.2.2.2.2.2.2.2.2.2.2.2.2.1 bt1397.2.2.2.2.2.2.2.2.2.2.2.2.2.2.2.2.2.2.2.2.2.2.2.2.2.1 bt1397.2.2.2.2.2.2.2.2.2.2.2.2.2.2.2.2.2.2.2.2.2.2.2.2.2.2.1 bt1397.2.2.2.2.2.2.2.2.2.2.2.2.2.2.2.2.2.2.2.2.2.2.2.2.2.2.2.1 bt1397.2.2.2.2.2.2.2.2.2.2.2.2.2.2.2.2.2.2.2.2.2.2.2.2.2.2.2.2))))))))))))))) = some r := h
 clear h
 by_cases c7 : (a1.size : Int) > 1048576
 ·rw [if_pos c7] at H
  have c7b0 : decide (1048576 < (a1.size : Int)) = true := decide_eq_true c7
  have c7b1 : decide (1048576 < a1.size) = true := decide_eq_true (by omega)
  clear c7
  obtain rfl := Option.some.inj H
  go_enter Tryd.func11, Tryd.ntmps11
  go_wp2_with (first | ((with_reducible refine gate_dst (N := 6) rfl ?_); refine box_event ?hg (N := 6) ?hd (cs := #[.int .i8 F0, .int .i8 F1, .int .i8 F2, .int .i8 F3, .int .i8 F4, .int .i8 F5, .int .i8 F6, .int .i8 F7, .int .i8 F8, .int .i8 F9, .int .i8 F10, .int .i8 F11, .int .i8 F12, .int .i8 F13, .int .i8 F14, .int .i8 F15, .int .i8 F16, .int .i8 F17, .int .i8 F18, .int .i8 F19, .int .i8 F20, .int .i8 F21, .int .i8 F22, .int .i8 F23, .int .i8 F24, .int .i8 F25, .int .i8 F26, .int .i8 F27, .slice A0_28 l0_28.length c0_28]) (t := 26) ?hr ?_; (case hd => rfl); (case hg => rfl); (case hr => first | (go_simp; done) | (go_simp; rfl)); intro gb1356 hg w8 hbox hb; have n0_ := Aside0.mk (below_step (by repeat (first | (with_reducible first | exact HB.out | apply bwA | apply pwN | apply bw1) | exact HB.out)) hb); have n1_ := Aside0.mk (hbox); have n2_ := Aside0.mk ((by rw [hg]; exact (below_size (by repeat (first | (with_reducible first | exact HB.out | apply bwA | apply pwN | apply bw1) | exact HB.out))) : w.heap.size ≤ gb1356)); have n3_ := Aside0.mk ((by rw [hg]; exact (below_size (by repeat (first | (with_reducible first | exact HB.out | apply bwA | apply pwN | apply bw1) | exact HB.out))) : w.heap.size ≤ gb1356)); clear HB; have HB := n0_; have BK1356 := n1_; have GW1356 := n2_; have GE1356 := n3_; clear n0_ n1_ n2_ n3_; clear hb hbox hg))
  go_ret
  exact ⟨by first | rfl | (simp [errW_none, errW_some] <;> rfl) | (simp [*, errW_none, errW_some] <;> rfl), by repeat (first | (with_reducible first | exact HB.out | apply bwA | apply pwN | apply bw1 | refine below_set ?_ GE1356.out) | exact HB.out)⟩
 ·rw [if_neg c7] at H
  have c7b0 : decide (1048576 < (a1.size : Int)) = false := decide_eq_false c7
  have c7b1 : decide (1048576 < a1.size) = false := decide_eq_false (by omega)
  clear c7
  by_cases c9 : (a2.size : Int) > 1048576
  ·rw [if_pos c9] at H
   have c9b0 : decide (1048576 < (a2.size : Int)) = true := decide_eq_true c9
   have c9b1 : decide (1048576 < a2.size) = true := decide_eq_true (by omega)
   clear c9
   obtain rfl := Option.some.inj H
   go_enter Tryd.func11, Tryd.ntmps11
   go_wp2_with (first | ((with_reducible refine gate_dst (N := 6) rfl ?_); refine box_event ?hg (N := 6) ?hd (cs := #[.int .i8 F0, .int .i8 F1, .int .i8 F2, .int .i8 F3, .int .i8 F4, .int .i8 F5, .int .i8 F6, .int .i8 F7, .int .i8 F8, .int .i8 F9, .int .i8 F10, .int .i8 F11, .int .i8 F12, .int .i8 F13, .int .i8 F14, .int .i8 F15, .int .i8 F16, .int .i8 F17, .int .i8 F18, .int .i8 F19, .int .i8 F20, .int .i8 F21, .int .i8 F22, .int .i8 F23, .int .i8 F24, .int .i8 F25, .int .i8 F26, .int .i8 F27, .slice A0_28 l0_28.length c0_28]) (t := 26) ?hr ?_; (case hd => rfl); (case hg => rfl); (case hr => first | (go_simp; done) | (go_simp; rfl)); intro gb1356 hg w10 hbox hb; have n0_ := Aside0.mk (below_step (by repeat (first | (with_reducible first | exact HB.out | apply bwA | apply pwN | apply bw1) | exact HB.out)) hb); have n1_ := Aside0.mk (hbox); have n2_ := Aside0.mk ((by rw [hg]; exact (below_size (by repeat (first | (with_reducible first | exact HB.out | apply bwA | apply pwN | apply bw1) | exact HB.out))) : w.heap.size ≤ gb1356)); have n3_ := Aside0.mk ((by rw [hg]; exact (below_size (by repeat (first | (with_reducible first | exact HB.out | apply bwA | apply pwN | apply bw1) | exact HB.out))) : w.heap.size ≤ gb1356)); clear HB; have HB := n0_; have BK1356 := n1_; have GW1356 := n2_; have GE1356 := n3_; clear n0_ n1_ n2_ n3_; clear hb hbox hg))
   go_ret
   exact ⟨by first | rfl | (simp [errW_none, errW_some] <;> rfl) | (simp [*, errW_none, errW_some] <;> rfl), by repeat (first | (with_reducible first | exact HB.out | apply bwA | apply pwN | apply bw1 | refine below_set ?_ GE1356.out) | exact HB.out)⟩
  ·rw [if_neg c9] at H
   have c9b0 : decide (1048576 < (a2.size : Int)) = false := decide_eq_false c9
   have c9b1 : decide (1048576 < a2.size) = false := decide_eq_false (by omega)
   clear c9
   replace H := Option.bind_eq_some_iff.mp H
   obtain ⟨t1357, A110, H⟩ := H
   (try dsimp only at H)
   have A11 := Aside0.mk A110
   clear A110
   by_cases c12 : t1357 < 0
   ·rw [if_pos c12] at H
    have c12b0 : decide (t1357 < 0) = true := decide_eq_true c12
    clear c12
    obtain rfl := Option.some.inj H
    go_enter Tryd.func11, Tryd.ntmps11
    go_wp2_with (first | ((with_reducible refine gate_dst (N := 6) rfl ?_); refine box_event ?hg (N := 6) ?hd (cs := #[.int .i8 F0, .int .i8 F1, .int .i8 F2, .int .i8 F3, .int .i8 F4, .int .i8 F5, .int .i8 F6, .int .i8 F7, .int .i8 F8, .int .i8 F9, .int .i8 F10, .int .i8 F11, .int .i8 F12, .int .i8 F13, .int .i8 F14, .int .i8 F15, .int .i8 F16, .int .i8 F17, .int .i8 F18, .int .i8 F19, .int .i8 F20, .int .i8 F21, .int .i8 F22, .int .i8 F23, .int .i8 F24, .int .i8 F25, .int .i8 F26, .int .i8 F27, .slice A0_28 l0_28.length c0_28]) (t := 26) ?hr ?_; (case hd => rfl); (case hg => rfl); (case hr => first | (go_simp; done) | (go_simp; rfl)); intro gb1356 hg w13 hbox hb; have n0_ := Aside0.mk (below_step (by repeat (first | (with_reducible first | exact HB.out | apply bwA | apply pwN | apply bw1) | exact HB.out)) hb); have n1_ := Aside0.mk (hbox); have n2_ := Aside0.mk ((by rw [hg]; exact (below_size (by repeat (first | (with_reducible first | exact HB.out | apply bwA | apply pwN | apply bw1) | exact HB.out))) : w.heap.size ≤ gb1356)); have n3_ := Aside0.mk ((by rw [hg]; exact (below_size (by repeat (first | (with_reducible first | exact HB.out | apply bwA | apply pwN | apply bw1) | exact HB.out))) : w.heap.size ≤ gb1356)); clear HB; have HB := n0_; have BK1356 := n1_; have GW1356 := n2_; have GE1356 := n3_; clear n0_ n1_ n2_ n3_; clear hb hbox hg) | ((with_reducible refine gate_dst (N := 31) rfl ?_); refine wpList_load_mid rfl 26 (.tmp 6) rfl gb1356 0 rfl [.int .i8 F0, .int .i8 F1, .int .i8 F2, .int .i8 F3, .int .i8 F4, .int .i8 F5, .int .i8 F6, .int .i8 F7, .int .i8 F8, .int .i8 F9, .int .i8 F10, .int .i8 F11, .int .i8 F12, .int .i8 F13, .int .i8 F14, .int .i8 F15, .int .i8 F16, .int .i8 F17, .int .i8 F18, .int .i8 F19, .int .i8 F20, .int .i8 F21, .int .i8 F22, .int .i8 F23, .int .i8 F24, .int .i8 F25, .int .i8 F26, .int .i8 F27, .slice A0_28 l0_28.length c0_28] _ (range_partx_ [] [.int .i8 F0, .int .i8 F1, .int .i8 F2, .int .i8 F3, .int .i8 F4, .int .i8 F5, .int .i8 F6, .int .i8 F7, .int .i8 F8, .int .i8 F9, .int .i8 F10, .int .i8 F11, .int .i8 F12, .int .i8 F13, .int .i8 F14, .int .i8 F15, .int .i8 F16, .int .i8 F17, .int .i8 F18, .int .i8 F19, .int .i8 F20, .int .i8 F21, .int .i8 F22, .int .i8 F23, .int .i8 F24, .int .i8 F25, .int .i8 F26, .int .i8 F27, .slice A0_28 l0_28.length c0_28] [] 0 rfl (by (with_reducible repeat (first | refine blk_drewN ?_ _ | refine blk_drew ?_ | refine blk_alloc ?_ _)); exact BK1356.out)) Tryd.underlying26 rfl (by exact (show (Tryd.prog.info? 26).map (·.size) = some 29 by kernel_rfl)) ?_) | ((with_reducible refine gate_callee (f := 18) rfl ?_); refine goesL_ (some 33) rfl rfl Tryd.func18 (by kernel_rfl) rfl #[.agg #[.int .i8 F0, .int .i8 F1, .int .i8 F2, .int .i8 F3, .int .i8 F4, .int .i8 F5, .int .i8 F6, .int .i8 F7, .int .i8 F8, .int .i8 F9, .int .i8 F10, .int .i8 F11, .int .i8 F12, .int .i8 F13, .int .i8 F14, .int .i8 F15, .int .i8 F16, .int .i8 F17, .int .i8 F18, .int .i8 F19, .int .i8 F20, .int .i8 F21, .int .i8 F22, .int .i8 F23, .int .i8 F24, .int .i8 F25, .int .i8 F26, .int .i8 F27, .slice A0_28 l0_28.length c0_28], .int .i64 1048576] rfl (by (try simp only [List.map_toArray, List.map_cons, List.map_nil]); first | done | rfl | (simp only [List.length_drop, List.length_take]; rfl)) ?_; (with_reducible refine (laws_szFace.calls F0 F1 F2 F3 F4 F5 F6 F7 F8 F9 F10 F11 F12 F13 F14 F15 F16 F17 F18 F19 F20 F21 F22 F23 F24 F25 F26 F27 _ _ l0_28 1048576 t1357 _ ?side1 ?side2 A11.out).mono ?_); (case side1 => repeat (first | exact (Kd.C_below HR0_28.out HB.out) | (with_reducible refine Kd.C_alloc ?_ _) | (with_reducible refine Kd.C_drewN ?_ _) | (with_reducible refine Kd.C_drew ?_))); (case side2 => exact HC0_28.out); rintro e w14 ⟨rfl, hb⟩; refine ⟨_, rfl, ?_⟩; have n0_ := Aside0.mk (blk_below (g := gb1356) (o := .cells #[.int .i8 F0, .int .i8 F1, .int .i8 F2, .int .i8 F3, .int .i8 F4, .int .i8 F5, .int .i8 F6, .int .i8 F7, .int .i8 F8, .int .i8 F9, .int .i8 F10, .int .i8 F11, .int .i8 F12, .int .i8 F13, .int .i8 F14, .int .i8 F15, .int .i8 F16, .int .i8 F17, .int .i8 F18, .int .i8 F19, .int .i8 F20, .int .i8 F21, .int .i8 F22, .int .i8 F23, .int .i8 F24, .int .i8 F25, .int .i8 F26, .int .i8 F27, .slice A0_28 l0_28.length c0_28] 26 (0, 0)) (by (with_reducible repeat (first | refine blk_drewN ?_ _ | refine blk_drew ?_ | refine blk_alloc ?_ _)); exact BK1356.out) hb); have n1_ := Aside0.mk (below_step (by repeat (first | (with_reducible first | exact HB.out | apply bwA | apply pwN | apply bw1 | refine below_set ?_ GE1356.out) | exact HB.out)) hb); clear BK1356; clear HB; have BK1356 := n0_; have HB := n1_; clear n0_ n1_; (try clear hb); (try clear hb2); (try clear hk); (try clear hi)))
    go_ret
    exact ⟨by first | rfl | (simp [errW_none, errW_some] <;> rfl) | (simp [*, errW_none, errW_some] <;> rfl), by repeat (first | (with_reducible first | exact HB.out | apply bwA | apply pwN | apply bw1 | refine below_set ?_ GE1356.out) | exact HB.out)⟩
   ·rw [if_neg c12] at H
    have c12b0 : decide (t1357 < 0) = false := decide_eq_false c12
    clear c12
    replace H := Option.bind_eq_some_iff.mp H
    obtain ⟨t1358, A150, H⟩ := H
    (try dsimp only at H)
    have A15 := Aside0.mk A150
    clear A150
    by_cases c16 : t1358 < 0
    ·rw [if_pos c16] at H
     have c16b0 : decide (t1358 < 0) = true := decide_eq_true c16
     clear c16
     obtain rfl := Option.some.inj H
     go_enter Tryd.func11, Tryd.ntmps11
     go_wp2_with (first | ((with_reducible refine gate_dst (N := 6) rfl ?_); refine box_event ?hg (N := 6) ?hd (cs := #[.int .i8 F0, .int .i8 F1, .int .i8 F2, .int .i8 F3, .int .i8 F4, .int .i8 F5, .int .i8 F6, .int .i8 F7, .int .i8 F8, .int .i8 F9, .int .i8 F10, .int .i8 F11, .int .i8 F12, .int .i8 F13, .int .i8 F14, .int .i8 F15, .int .i8 F16, .int .i8 F17, .int .i8 F18, .int .i8 F19, .int .i8 F20, .int .i8 F21, .int .i8 F22, .int .i8 F23, .int .i8 F24, .int .i8 F25, .int .i8 F26, .int .i8 F27, .slice A0_28 l0_28.length c0_28]) (t := 26) ?hr ?_; (case hd => rfl); (case hg => rfl); (case hr => first | (go_simp; done) | (go_simp; rfl)); intro gb1356 hg w17 hbox hb; have n0_ := Aside0.mk (below_step (by repeat (first | (with_reducible first | exact HB.out | apply bwA | apply pwN | apply bw1) | exact HB.out)) hb); have n1_ := Aside0.mk (hbox); have n2_ := Aside0.mk ((by rw [hg]; exact (below_size (by repeat (first | (with_reducible first | exact HB.out | apply bwA | apply pwN | apply bw1) | exact HB.out))) : w.heap.size ≤ gb1356)); have n3_ := Aside0.mk ((by rw [hg]; exact (below_size (by repeat (first | (with_reducible first | exact HB.out | apply bwA | apply pwN | apply bw1) | exact HB.out))) : w.heap.size ≤ gb1356)); clear HB; have HB := n0_; have BK1356 := n1_; have GW1356 := n2_; have GE1356 := n3_; clear n0_ n1_ n2_ n3_; clear hb hbox hg) | ((with_reducible refine gate_dst (N := 31) rfl ?_); refine wpList_load_mid rfl 26 (.tmp 6) rfl gb1356 0 rfl [.int .i8 F0, .int .i8 F1, .int .i8 F2, .int .i8 F3, .int .i8 F4, .int .i8 F5, .int .i8 F6, .int .i8 F7, .int .i8 F8, .int .i8 F9, .int .i8 F10, .int .i8 F11, .int .i8 F12, .int .i8 F13, .int .i8 F14, .int .i8 F15, .int .i8 F16, .int .i8 F17, .int .i8 F18, .int .i8 F19, .int .i8 F20, .int .i8 F21, .int .i8 F22, .int .i8 F23, .int .i8 F24, .int .i8 F25, .int .i8 F26, .int .i8 F27, .slice A0_28 l0_28.length c0_28] _ (range_partx_ [] [.int .i8 F0, .int .i8 F1, .int .i8 F2, .int .i8 F3, .int .i8 F4, .int .i8 F5, .int .i8 F6, .int .i8 F7, .int .i8 F8, .int .i8 F9, .int .i8 F10, .int .i8 F11, .int .i8 F12, .int .i8 F13, .int .i8 F14, .int .i8 F15, .int .i8 F16, .int .i8 F17, .int .i8 F18, .int .i8 F19, .int .i8 F20, .int .i8 F21, .int .i8 F22, .int .i8 F23, .int .i8 F24, .int .i8 F25, .int .i8 F26, .int .i8 F27, .slice A0_28 l0_28.length c0_28] [] 0 rfl (by (with_reducible repeat (first | refine blk_drewN ?_ _ | refine blk_drew ?_ | refine blk_alloc ?_ _)); exact BK1356.out)) Tryd.underlying26 rfl (by exact (show (Tryd.prog.info? 26).map (·.size) = some 29 by kernel_rfl)) ?_) | ((with_reducible refine gate_callee (f := 18) rfl ?_); refine goesL_ (some 33) rfl rfl Tryd.func18 (by kernel_rfl) rfl #[.agg #[.int .i8 F0, .int .i8 F1, .int .i8 F2, .int .i8 F3, .int .i8 F4, .int .i8 F5, .int .i8 F6, .int .i8 F7, .int .i8 F8, .int .i8 F9, .int .i8 F10, .int .i8 F11, .int .i8 F12, .int .i8 F13, .int .i8 F14, .int .i8 F15, .int .i8 F16, .int .i8 F17, .int .i8 F18, .int .i8 F19, .int .i8 F20, .int .i8 F21, .int .i8 F22, .int .i8 F23, .int .i8 F24, .int .i8 F25, .int .i8 F26, .int .i8 F27, .slice A0_28 l0_28.length c0_28], .int .i64 1048576] rfl (by (try simp only [List.map_toArray, List.map_cons, List.map_nil]); first | done | rfl | (simp only [List.length_drop, List.length_take]; rfl)) ?_; (with_reducible refine (laws_szFace.calls F0 F1 F2 F3 F4 F5 F6 F7 F8 F9 F10 F11 F12 F13 F14 F15 F16 F17 F18 F19 F20 F21 F22 F23 F24 F25 F26 F27 _ _ l0_28 1048576 t1357 _ ?side1 ?side2 A11.out).mono ?_); (case side1 => repeat (first | exact (Kd.C_below HR0_28.out HB.out) | (with_reducible refine Kd.C_alloc ?_ _) | (with_reducible refine Kd.C_drewN ?_ _) | (with_reducible refine Kd.C_drew ?_))); (case side2 => exact HC0_28.out); rintro e w18 ⟨rfl, hb⟩; refine ⟨_, rfl, ?_⟩; have n0_ := Aside0.mk (blk_below (g := gb1356) (o := .cells #[.int .i8 F0, .int .i8 F1, .int .i8 F2, .int .i8 F3, .int .i8 F4, .int .i8 F5, .int .i8 F6, .int .i8 F7, .int .i8 F8, .int .i8 F9, .int .i8 F10, .int .i8 F11, .int .i8 F12, .int .i8 F13, .int .i8 F14, .int .i8 F15, .int .i8 F16, .int .i8 F17, .int .i8 F18, .int .i8 F19, .int .i8 F20, .int .i8 F21, .int .i8 F22, .int .i8 F23, .int .i8 F24, .int .i8 F25, .int .i8 F26, .int .i8 F27, .slice A0_28 l0_28.length c0_28] 26 (0, 0)) (by (with_reducible repeat (first | refine blk_drewN ?_ _ | refine blk_drew ?_ | refine blk_alloc ?_ _)); exact BK1356.out) hb); have n1_ := Aside0.mk (below_step (by repeat (first | (with_reducible first | exact HB.out | apply bwA | apply pwN | apply bw1 | refine below_set ?_ GE1356.out) | exact HB.out)) hb); clear BK1356; clear HB; have BK1356 := n0_; have HB := n1_; clear n0_ n1_; (try clear hb); (try clear hb2); (try clear hk); (try clear hi)) | ((with_reducible refine gate_callee (f := 39) rfl ?_); refine goesL_ (some 38) rfl rfl Tryd.func39 (by kernel_rfl) rfl #[.slice A3 l3.length c3, .int .i64 t1357] rfl (by (try simp only [List.map_toArray, List.map_cons, List.map_nil]); first | done | rfl | (simp only [List.length_drop, List.length_take]; rfl)) ?_; (with_reducible refine (laws_szStringS.calls k _ _ l3 t1357 t1358 _ ?side1 ?side2 A15.out).mono ?_); (case side1 => repeat (first | exact (Kd.C_below HR3.out HB.out) | (with_reducible refine Kd.C_alloc ?_ _) | (with_reducible refine Kd.C_drewN ?_ _) | (with_reducible refine Kd.C_drew ?_))); (case side2 => exact HC3.out); rintro e w' ⟨rfl, ⟨nd, rfl⟩⟩; refine ⟨_, rfl, ?_⟩))
     go_ret
     exact ⟨by first | rfl | (simp [errW_none, errW_some] <;> rfl) | (simp [*, errW_none, errW_some] <;> rfl), by repeat (first | (with_reducible first | exact HB.out | apply bwA | apply pwN | apply bw1 | refine below_set ?_ GE1356.out) | exact HB.out)⟩
    ·rw [if_neg c16] at H
     have c16b0 : decide (t1358 < 0) = false := decide_eq_false c16
     clear c16
     replace H := Option.bind_eq_some_iff.mp H
     obtain ⟨⟨t1359, t1360, t1361, t1362, t1363, t1364, t1365, t1366, t1367, t1368, t1369, t1370, t1371, t1372, t1373, t1374, t1375, t1376, t1377, t1378, t1379, t1380, t1381, t1382, t1383, t1384, t1385, t1386, t1387⟩, A190, H⟩ := H
     (try dsimp only at H)
     have A19 := Aside0.mk A190
     clear A190
     replace H := Option.bind_eq_some_iff.mp H
     obtain ⟨t1390, A200, H⟩ := H
     (try dsimp only at H)
     have A20 := Aside0.mk A200
     clear A200
     replace H := Option.bind_eq_some_iff.mp H
     obtain ⟨⟨t1393, t1396⟩, A210, H⟩ := H
     (try dsimp only at H)
     have A21 := Aside0.mk A210
     clear A210
     replace H := Option.bind_eq_some_iff.mp H
     obtain ⟨⟨t1397, t1398, t1399, t1400, t1401, t1402, t1403, t1404, t1405, t1406, t1407, t1408, t1409, t1410, t1411, t1412, t1413, t1414, t1415, t1416, t1417, t1418, t1419, t1420, t1421, t1422, t1423, t1424, t1425⟩, A220, H⟩ := H
     (try dsimp only at H)
     have A22 := Aside0.mk A220
     clear A220
     replace H := Option.bind_eq_some_iff.mp H
     obtain ⟨t1429, A230, H⟩ := H
     (try dsimp only at H)
     have A23 := Aside0.mk A230
     clear A230
     replace H := Option.bind_eq_some_iff.mp H
     obtain ⟨⟨t1432, t1435⟩, A240, H⟩ := H
     (try dsimp only at H)
     have A24 := Aside0.mk A240
     clear A240
     have HC25 := Aside0.mk H
     clear H
     go_enter Tryd.func11, Tryd.ntmps11
     go_upto_region 16 with (first | ((with_reducible refine gate_dst (N := 6) rfl ?_); refine box_event ?hg (N := 6) ?hd (cs := #[.int .i8 F0, .int .i8 F1, .int .i8 F2, .int .i8 F3, .int .i8 F4, .int .i8 F5, .int .i8 F6, .int .i8 F7, .int .i8 F8, .int .i8 F9, .int .i8 F10, .int .i8 F11, .int .i8 F12, .int .i8 F13, .int .i8 F14, .int .i8 F15, .int .i8 F16, .int .i8 F17, .int .i8 F18, .int .i8 F19, .int .i8 F20, .int .i8 F21, .int .i8 F22, .int .i8 F23, .int .i8 F24, .int .i8 F25, .int .i8 F26, .int .i8 F27, .slice A0_28 l0_28.length c0_28]) (t := 26) ?hr ?_; (case hd => rfl); (case hg => rfl); (case hr => first | (go_simp; done) | (go_simp; rfl)); intro gb1356 hg w26 hbox hb; have n0_ := Aside0.mk (below_step (by repeat (first | (with_reducible first | exact HB.out | apply bwA | apply pwN | apply bw1) | exact HB.out)) hb); have n1_ := Aside0.mk (hbox); have n2_ := Aside0.mk ((by rw [hg]; exact (below_size (by repeat (first | (with_reducible first | exact HB.out | apply bwA | apply pwN | apply bw1) | exact HB.out))) : w.heap.size ≤ gb1356)); have n3_ := Aside0.mk ((by rw [hg]; exact (below_size (by repeat (first | (with_reducible first | exact HB.out | apply bwA | apply pwN | apply bw1) | exact HB.out))) : w.heap.size ≤ gb1356)); clear HB; have HB := n0_; have BK1356 := n1_; have GW1356 := n2_; have GE1356 := n3_; clear n0_ n1_ n2_ n3_; clear hb hbox hg) | ((with_reducible refine gate_dst (N := 31) rfl ?_); refine wpList_load_mid rfl 26 (.tmp 6) rfl gb1356 0 rfl [.int .i8 F0, .int .i8 F1, .int .i8 F2, .int .i8 F3, .int .i8 F4, .int .i8 F5, .int .i8 F6, .int .i8 F7, .int .i8 F8, .int .i8 F9, .int .i8 F10, .int .i8 F11, .int .i8 F12, .int .i8 F13, .int .i8 F14, .int .i8 F15, .int .i8 F16, .int .i8 F17, .int .i8 F18, .int .i8 F19, .int .i8 F20, .int .i8 F21, .int .i8 F22, .int .i8 F23, .int .i8 F24, .int .i8 F25, .int .i8 F26, .int .i8 F27, .slice A0_28 l0_28.length c0_28] _ (range_partx_ [] [.int .i8 F0, .int .i8 F1, .int .i8 F2, .int .i8 F3, .int .i8 F4, .int .i8 F5, .int .i8 F6, .int .i8 F7, .int .i8 F8, .int .i8 F9, .int .i8 F10, .int .i8 F11, .int .i8 F12, .int .i8 F13, .int .i8 F14, .int .i8 F15, .int .i8 F16, .int .i8 F17, .int .i8 F18, .int .i8 F19, .int .i8 F20, .int .i8 F21, .int .i8 F22, .int .i8 F23, .int .i8 F24, .int .i8 F25, .int .i8 F26, .int .i8 F27, .slice A0_28 l0_28.length c0_28] [] 0 rfl (by (with_reducible repeat (first | refine blk_drewN ?_ _ | refine blk_drew ?_ | refine blk_alloc ?_ _)); exact BK1356.out)) Tryd.underlying26 rfl (by exact (show (Tryd.prog.info? 26).map (·.size) = some 29 by kernel_rfl)) ?_) | ((with_reducible refine gate_callee (f := 18) rfl ?_); refine goesL_ (some 33) rfl rfl Tryd.func18 (by kernel_rfl) rfl #[.agg #[.int .i8 F0, .int .i8 F1, .int .i8 F2, .int .i8 F3, .int .i8 F4, .int .i8 F5, .int .i8 F6, .int .i8 F7, .int .i8 F8, .int .i8 F9, .int .i8 F10, .int .i8 F11, .int .i8 F12, .int .i8 F13, .int .i8 F14, .int .i8 F15, .int .i8 F16, .int .i8 F17, .int .i8 F18, .int .i8 F19, .int .i8 F20, .int .i8 F21, .int .i8 F22, .int .i8 F23, .int .i8 F24, .int .i8 F25, .int .i8 F26, .int .i8 F27, .slice A0_28 l0_28.length c0_28], .int .i64 1048576] rfl (by (try simp only [List.map_toArray, List.map_cons, List.map_nil]); first | done | rfl | (simp only [List.length_drop, List.length_take]; rfl)) ?_; (with_reducible refine (laws_szFace.calls F0 F1 F2 F3 F4 F5 F6 F7 F8 F9 F10 F11 F12 F13 F14 F15 F16 F17 F18 F19 F20 F21 F22 F23 F24 F25 F26 F27 _ _ l0_28 1048576 t1357 _ ?side1 ?side2 A11.out).mono ?_); (case side1 => repeat (first | exact (Kd.C_below HR0_28.out HB.out) | (with_reducible refine Kd.C_alloc ?_ _) | (with_reducible refine Kd.C_drewN ?_ _) | (with_reducible refine Kd.C_drew ?_))); (case side2 => exact HC0_28.out); rintro e w27 ⟨rfl, hb⟩; refine ⟨_, rfl, ?_⟩; have n0_ := Aside0.mk (blk_below (g := gb1356) (o := .cells #[.int .i8 F0, .int .i8 F1, .int .i8 F2, .int .i8 F3, .int .i8 F4, .int .i8 F5, .int .i8 F6, .int .i8 F7, .int .i8 F8, .int .i8 F9, .int .i8 F10, .int .i8 F11, .int .i8 F12, .int .i8 F13, .int .i8 F14, .int .i8 F15, .int .i8 F16, .int .i8 F17, .int .i8 F18, .int .i8 F19, .int .i8 F20, .int .i8 F21, .int .i8 F22, .int .i8 F23, .int .i8 F24, .int .i8 F25, .int .i8 F26, .int .i8 F27, .slice A0_28 l0_28.length c0_28] 26 (0, 0)) (by (with_reducible repeat (first | refine blk_drewN ?_ _ | refine blk_drew ?_ | refine blk_alloc ?_ _)); exact BK1356.out) hb); have n1_ := Aside0.mk (below_step (by repeat (first | (with_reducible first | exact HB.out | apply bwA | apply pwN | apply bw1 | refine below_set ?_ GE1356.out) | exact HB.out)) hb); clear BK1356; clear HB; have BK1356 := n0_; have HB := n1_; clear n0_ n1_; (try clear hb); (try clear hb2); (try clear hk); (try clear hi)) | ((with_reducible refine gate_callee (f := 39) rfl ?_); refine goesL_ (some 38) rfl rfl Tryd.func39 (by kernel_rfl) rfl #[.slice A3 l3.length c3, .int .i64 t1357] rfl (by (try simp only [List.map_toArray, List.map_cons, List.map_nil]); first | done | rfl | (simp only [List.length_drop, List.length_take]; rfl)) ?_; (with_reducible refine (laws_szStringS.calls k _ _ l3 t1357 t1358 _ ?side1 ?side2 A15.out).mono ?_); (case side1 => repeat (first | exact (Kd.C_below HR3.out HB.out) | (with_reducible refine Kd.C_alloc ?_ _) | (with_reducible refine Kd.C_drewN ?_ _) | (with_reducible refine Kd.C_drew ?_))); (case side2 => exact HC3.out); rintro e w' ⟨rfl, ⟨nd, rfl⟩⟩; refine ⟨_, rfl, ?_⟩; (try (rw [drewN_self w27]; generalize hq_ : World.drewN w27 _ = w27; have n0_ : Aside0 (w27.heap[gb1356]? = some (.cells #[.int .i8 F0, .int .i8 F1, .int .i8 F2, .int .i8 F3, .int .i8 F4, .int .i8 F5, .int .i8 F6, .int .i8 F7, .int .i8 F8, .int .i8 F9, .int .i8 F10, .int .i8 F11, .int .i8 F12, .int .i8 F13, .int .i8 F14, .int .i8 F15, .int .i8 F16, .int .i8 F17, .int .i8 F18, .int .i8 F19, .int .i8 F20, .int .i8 F21, .int .i8 F22, .int .i8 F23, .int .i8 F24, .int .i8 F25, .int .i8 F26, .int .i8 F27, .slice A0_28 l0_28.length c0_28] 26 (0, 0))) := ⟨by rw [← hq_]; exact (by (with_reducible repeat (first | refine blk_drewN ?_ _ | refine blk_drew ?_ | refine blk_alloc ?_ _)); exact BK1356.out)⟩; have n1_ : Aside0 (Below w.heap.size w w27) := ⟨by rw [← hq_]; exact (by repeat (first | (with_reducible first | exact HB.out | apply bwA | apply pwN | apply bw1 | refine below_set ?_ GE1356.out) | exact HB.out))⟩; clear BK1356 HB hq_; have BK1356 := n0_; have HB := n1_; clear n0_ n1_))) | ((with_reducible refine gate_dst (N := 42) rfl ?_); refine wpList_load_mid rfl 26 (.tmp 6) rfl gb1356 0 rfl [.int .i8 F0, .int .i8 F1, .int .i8 F2, .int .i8 F3, .int .i8 F4, .int .i8 F5, .int .i8 F6, .int .i8 F7, .int .i8 F8, .int .i8 F9, .int .i8 F10, .int .i8 F11, .int .i8 F12, .int .i8 F13, .int .i8 F14, .int .i8 F15, .int .i8 F16, .int .i8 F17, .int .i8 F18, .int .i8 F19, .int .i8 F20, .int .i8 F21, .int .i8 F22, .int .i8 F23, .int .i8 F24, .int .i8 F25, .int .i8 F26, .int .i8 F27, .slice A0_28 l0_28.length c0_28] _ (range_partx_ [] [.int .i8 F0, .int .i8 F1, .int .i8 F2, .int .i8 F3, .int .i8 F4, .int .i8 F5, .int .i8 F6, .int .i8 F7, .int .i8 F8, .int .i8 F9, .int .i8 F10, .int .i8 F11, .int .i8 F12, .int .i8 F13, .int .i8 F14, .int .i8 F15, .int .i8 F16, .int .i8 F17, .int .i8 F18, .int .i8 F19, .int .i8 F20, .int .i8 F21, .int .i8 F22, .int .i8 F23, .int .i8 F24, .int .i8 F25, .int .i8 F26, .int .i8 F27, .slice A0_28 l0_28.length c0_28] [] 0 rfl (by (with_reducible repeat (first | refine blk_drewN ?_ _ | refine blk_drew ?_ | refine blk_alloc ?_ _)); exact BK1356.out)) Tryd.underlying26 rfl (by exact (show (Tryd.prog.info? 26).map (·.size) = some 29 by kernel_rfl)) ?_) | ((with_reducible refine gate_callee (f := 20) rfl ?_); refine goesL_ (some 43) rfl rfl Tryd.func20 (by kernel_rfl) rfl #[.agg #[.int .i8 F0, .int .i8 F1, .int .i8 F2, .int .i8 F3, .int .i8 F4, .int .i8 F5, .int .i8 F6, .int .i8 F7, .int .i8 F8, .int .i8 F9, .int .i8 F10, .int .i8 F11, .int .i8 F12, .int .i8 F13, .int .i8 F14, .int .i8 F15, .int .i8 F16, .int .i8 F17, .int .i8 F18, .int .i8 F19, .int .i8 F20, .int .i8 F21, .int .i8 F22, .int .i8 F23, .int .i8 F24, .int .i8 F25, .int .i8 F26, .int .i8 F27, .slice A0_28 l0_28.length c0_28]] rfl (by (try simp only [List.map_toArray, List.map_cons, List.map_nil]); first | done | rfl | (simp only [List.length_drop, List.length_take]; rfl)) ?_; (with_reducible refine (laws_toFace.calls F0 F1 F2 F3 F4 F5 F6 F7 F8 F9 F10 F11 F12 F13 F14 F15 F16 F17 F18 F19 F20 F21 F22 F23 F24 F25 F26 F27 _ _ l0_28 t1359 t1360 t1361 t1362 t1363 t1364 t1365 t1366 t1367 t1368 t1369 t1370 t1371 t1372 t1373 t1374 t1375 t1376 t1377 t1378 t1379 t1380 t1381 t1382 t1383 t1384 t1385 t1386 t1387 _ ?side1 ?side2 A19.out).mono ?_); (case side1 => repeat (first | exact (Kd.C_below HR0_28.out HB.out) | (with_reducible refine Kd.C_alloc ?_ _) | (with_reducible refine Kd.C_drewN ?_ _) | (with_reducible refine Kd.C_drew ?_))); (case side2 => exact HC0_28.out); rintro e w28 ⟨v1388, rfl, ho0, hb⟩; refine ⟨_, rfl, ?_⟩; have n0_ := Aside0.mk (Kd.R_lower ho0 (below_size (by repeat (first | (with_reducible first | exact HB.out | apply bwA | apply pwN | apply bw1 | refine below_set ?_ GE1356.out) | exact HB.out)))); have n1_ := Aside0.mk (blk_below (g := gb1356) (o := .cells #[.int .i8 F0, .int .i8 F1, .int .i8 F2, .int .i8 F3, .int .i8 F4, .int .i8 F5, .int .i8 F6, .int .i8 F7, .int .i8 F8, .int .i8 F9, .int .i8 F10, .int .i8 F11, .int .i8 F12, .int .i8 F13, .int .i8 F14, .int .i8 F15, .int .i8 F16, .int .i8 F17, .int .i8 F18, .int .i8 F19, .int .i8 F20, .int .i8 F21, .int .i8 F22, .int .i8 F23, .int .i8 F24, .int .i8 F25, .int .i8 F26, .int .i8 F27, .slice A0_28 l0_28.length c0_28] 26 (0, 0)) (by (with_reducible repeat (first | refine blk_drewN ?_ _ | refine blk_drew ?_ | refine blk_alloc ?_ _)); exact BK1356.out) hb); have n2_ := Aside0.mk (below_step (by repeat (first | (with_reducible first | exact HB.out | apply bwA | apply pwN | apply bw1 | refine below_set ?_ GE1356.out) | exact HB.out)) hb); clear BK1356; clear HB; have HO1389 := n0_; have BK1356 := n1_; have HB := n2_; clear n0_ n1_ n2_; (try clear hb); (try clear hb2); (try clear hk); (try clear hi); (try clear ho0)) | ((with_reducible refine gate_callee (f := 41) rfl ?_); refine goesL_ (some 47) rfl rfl Tryd.func41 (by kernel_rfl) rfl #[.slice A3 l3.length c3] rfl (by (try simp only [List.map_toArray, List.map_cons, List.map_nil]); first | done | rfl | (simp only [List.length_drop, List.length_take]; rfl)) ?_; (with_reducible refine (laws_toStringS.calls k _ _ l3 t1390 _ ?side1 ?side2 A20.out).mono ?_); (case side1 => repeat (first | exact (Kd.C_below HR3.out HB.out) | (with_reducible refine Kd.C_alloc ?_ _) | (with_reducible refine Kd.C_drewN ?_ _) | (with_reducible refine Kd.C_drew ?_))); (case side2 => exact HC3.out); rintro e w29 ⟨v1391, rfl, ho0, hb⟩; refine ⟨_, rfl, ?_⟩; have n0_ := Aside0.mk (Kd.R_below (by (with_reducible repeat (first | apply Kd.R_alloc | apply Kd.R_drewN | apply Kd.R_drew)); exact HO1389.out) hb); have n1_ := Aside0.mk (Kd.R_lower ho0 (below_size (by repeat (first | (with_reducible first | exact HB.out | apply bwA | apply pwN | apply bw1 | refine below_set ?_ GE1356.out) | exact HB.out)))); have n2_ := Aside0.mk (blk_below (g := gb1356) (o := .cells #[.int .i8 F0, .int .i8 F1, .int .i8 F2, .int .i8 F3, .int .i8 F4, .int .i8 F5, .int .i8 F6, .int .i8 F7, .int .i8 F8, .int .i8 F9, .int .i8 F10, .int .i8 F11, .int .i8 F12, .int .i8 F13, .int .i8 F14, .int .i8 F15, .int .i8 F16, .int .i8 F17, .int .i8 F18, .int .i8 F19, .int .i8 F20, .int .i8 F21, .int .i8 F22, .int .i8 F23, .int .i8 F24, .int .i8 F25, .int .i8 F26, .int .i8 F27, .slice A0_28 l0_28.length c0_28] 26 (0, 0)) (by (with_reducible repeat (first | refine blk_drewN ?_ _ | refine blk_drew ?_ | refine blk_alloc ?_ _)); exact BK1356.out) hb); have n3_ := Aside0.mk (below_step (by repeat (first | (with_reducible first | exact HB.out | apply bwA | apply pwN | apply bw1 | refine below_set ?_ GE1356.out) | exact HB.out)) hb); clear HO1389; clear BK1356; clear HB; have HO1389 := n0_; have HO1392 := n1_; have BK1356 := n2_; have HB := n3_; clear n0_ n1_ n2_ n3_; (try clear hb); (try clear hb2); (try clear hk); (try clear hi); (try clear ho0); obtain ⟨Ao30, co30, eo30⟩ := Kd.R_slice HO1389.out; subst eo30; obtain ⟨Ao31, co31, eo31⟩ := Kd.R_slice HO1392.out; subst eo31) | ((with_reducible refine gate_callee (f := 44) rfl ?_); refine goesL_ (some 50) rfl rfl Tryd.func44 (by kernel_rfl) rfl #[.agg #[.int .i8 t1359, .int .i8 t1360, .int .i8 t1361, .int .i8 t1362, .int .i8 t1363, .int .i8 t1364, .int .i8 t1365, .int .i8 t1366, .int .i8 t1367, .int .i8 t1368, .int .i8 t1369, .int .i8 t1370, .int .i8 t1371, .int .i8 t1372, .int .i8 t1373, .int .i8 t1374, .int .i8 t1375, .int .i8 t1376, .int .i8 t1377, .int .i8 t1378, .int .i8 t1379, .int .i8 t1380, .int .i8 t1381, .int .i8 t1382, .int .i8 t1383, .int .i8 t1384, .int .i8 t1385, .int .i8 t1386, .slice Ao30 t1387.length co30], .string a1, .string a2, .slice Ao31 t1390.length co31, .int .i64 a4, .int .i64 a5] rfl (by (try simp only [List.map_toArray, List.map_cons, List.map_nil]); first | done | rfl | (simp only [List.length_drop, List.length_take]; rfl)) ?_; (with_reducible refine (spec_FillWord.calls k t1359 t1360 t1361 t1362 t1363 t1364 t1365 t1366 t1367 t1368 t1369 t1370 t1371 t1372 t1373 t1374 t1375 t1376 t1377 t1378 t1379 t1380 t1381 t1382 t1383 t1384 t1385 t1386 _ _ t1387 a1 a2 _ _ t1390 a4 a5 t1393 t1396 _ ?side1 ?side2 ?side3 ?side4 A21.out).mono ?_); (case side1 => repeat (first | exact (Kd.R_reads' HO1389.out).2.2 | (with_reducible refine Kd.C_alloc ?_ _) | (with_reducible refine Kd.C_drewN ?_ _) | (with_reducible refine Kd.C_drew ?_))); (case side2 => exact (Kd.R_reads' HO1389.out).2.1); (case side3 => repeat (first | exact (Kd.R_reads' HO1392.out).2.2 | (with_reducible refine Kd.C_alloc ?_ _) | (with_reducible refine Kd.C_drewN ?_ _) | (with_reducible refine Kd.C_drew ?_))); (case side4 => exact (Kd.R_reads' HO1392.out).2.1); rintro e w32 ⟨v1394, rfl, ho0, hb⟩; refine ⟨_, rfl, ?_⟩; have n0_ := Aside0.mk (Kd.R_below (by (with_reducible repeat (first | apply Kd.R_alloc | apply Kd.R_drewN | apply Kd.R_drew)); exact HO1389.out) hb); have n1_ := Aside0.mk (Kd.R_below (by (with_reducible repeat (first | apply Kd.R_alloc | apply Kd.R_drewN | apply Kd.R_drew)); exact HO1392.out) hb); have n2_ := Aside0.mk (Kd.R_lower ho0 (below_size (by repeat (first | (with_reducible first | exact HB.out | apply bwA | apply pwN | apply bw1 | refine below_set ?_ GE1356.out) | exact HB.out)))); have n3_ := Aside0.mk (blk_below (g := gb1356) (o := .cells #[.int .i8 F0, .int .i8 F1, .int .i8 F2, .int .i8 F3, .int .i8 F4, .int .i8 F5, .int .i8 F6, .int .i8 F7, .int .i8 F8, .int .i8 F9, .int .i8 F10, .int .i8 F11, .int .i8 F12, .int .i8 F13, .int .i8 F14, .int .i8 F15, .int .i8 F16, .int .i8 F17, .int .i8 F18, .int .i8 F19, .int .i8 F20, .int .i8 F21, .int .i8 F22, .int .i8 F23, .int .i8 F24, .int .i8 F25, .int .i8 F26, .int .i8 F27, .slice A0_28 l0_28.length c0_28] 26 (0, 0)) (by (with_reducible repeat (first | refine blk_drewN ?_ _ | refine blk_drew ?_ | refine blk_alloc ?_ _)); exact BK1356.out) hb); have n4_ := Aside0.mk (below_step (by repeat (first | (with_reducible first | exact HB.out | apply bwA | apply pwN | apply bw1 | refine below_set ?_ GE1356.out) | exact HB.out)) hb); clear HO1389; clear HO1392; clear BK1356; clear HB; have HO1389 := n0_; have HO1392 := n1_; have HO1395 := n2_; have BK1356 := n3_; have HB := n4_; clear n0_ n1_ n2_ n3_ n4_; (try clear hb); (try clear hb2); (try clear hk); (try clear hi); (try clear ho0)) | ((with_reducible refine gate_dst (N := 53) rfl ?_); refine wpList_load_mid rfl 26 (.tmp 6) rfl gb1356 0 rfl [.int .i8 F0, .int .i8 F1, .int .i8 F2, .int .i8 F3, .int .i8 F4, .int .i8 F5, .int .i8 F6, .int .i8 F7, .int .i8 F8, .int .i8 F9, .int .i8 F10, .int .i8 F11, .int .i8 F12, .int .i8 F13, .int .i8 F14, .int .i8 F15, .int .i8 F16, .int .i8 F17, .int .i8 F18, .int .i8 F19, .int .i8 F20, .int .i8 F21, .int .i8 F22, .int .i8 F23, .int .i8 F24, .int .i8 F25, .int .i8 F26, .int .i8 F27, .slice A0_28 l0_28.length c0_28] _ (range_partx_ [] [.int .i8 F0, .int .i8 F1, .int .i8 F2, .int .i8 F3, .int .i8 F4, .int .i8 F5, .int .i8 F6, .int .i8 F7, .int .i8 F8, .int .i8 F9, .int .i8 F10, .int .i8 F11, .int .i8 F12, .int .i8 F13, .int .i8 F14, .int .i8 F15, .int .i8 F16, .int .i8 F17, .int .i8 F18, .int .i8 F19, .int .i8 F20, .int .i8 F21, .int .i8 F22, .int .i8 F23, .int .i8 F24, .int .i8 F25, .int .i8 F26, .int .i8 F27, .slice A0_28 l0_28.length c0_28] [] 0 rfl (by (with_reducible repeat (first | refine blk_drewN ?_ _ | refine blk_drew ?_ | refine blk_alloc ?_ _)); exact BK1356.out)) Tryd.underlying26 rfl (by exact (show (Tryd.prog.info? 26).map (·.size) = some 29 by kernel_rfl)) ?_) | ((with_reducible refine gate_callee (f := 20) rfl ?_); refine goesL_ (some 54) rfl rfl Tryd.func20 (by kernel_rfl) rfl #[.agg #[.int .i8 F0, .int .i8 F1, .int .i8 F2, .int .i8 F3, .int .i8 F4, .int .i8 F5, .int .i8 F6, .int .i8 F7, .int .i8 F8, .int .i8 F9, .int .i8 F10, .int .i8 F11, .int .i8 F12, .int .i8 F13, .int .i8 F14, .int .i8 F15, .int .i8 F16, .int .i8 F17, .int .i8 F18, .int .i8 F19, .int .i8 F20, .int .i8 F21, .int .i8 F22, .int .i8 F23, .int .i8 F24, .int .i8 F25, .int .i8 F26, .int .i8 F27, .slice A0_28 l0_28.length c0_28]] rfl (by (try simp only [List.map_toArray, List.map_cons, List.map_nil]); first | done | rfl | (simp only [List.length_drop, List.length_take]; rfl)) ?_; (with_reducible refine (laws_toFace.calls F0 F1 F2 F3 F4 F5 F6 F7 F8 F9 F10 F11 F12 F13 F14 F15 F16 F17 F18 F19 F20 F21 F22 F23 F24 F25 F26 F27 _ _ l0_28 t1397 t1398 t1399 t1400 t1401 t1402 t1403 t1404 t1405 t1406 t1407 t1408 t1409 t1410 t1411 t1412 t1413 t1414 t1415 t1416 t1417 t1418 t1419 t1420 t1421 t1422 t1423 t1424 t1425 _ ?side1 ?side2 A22.out).mono ?_); (case side1 => repeat (first | exact (Kd.C_below HR0_28.out HB.out) | (with_reducible refine Kd.C_alloc ?_ _) | (with_reducible refine Kd.C_drewN ?_ _) | (with_reducible refine Kd.C_drew ?_))); (case side2 => exact HC0_28.out); rintro e w33 ⟨v1426, rfl, ho0, hb⟩; refine ⟨_, rfl, ?_⟩; have n0_ := Aside0.mk (Kd.R_elder' (by (with_reducible repeat (first | apply Kd.R_alloc | apply Kd.R_drewN | apply Kd.R_drew)); exact HO1389.out) (Kd.R_base ho0) hb); have n1_ := Aside0.mk (Kd.R_below (by (with_reducible repeat (first | apply Kd.R_alloc | apply Kd.R_drewN | apply Kd.R_drew)); exact HO1392.out) hb); have n2_ := Aside0.mk (Kd.R_below (by (with_reducible repeat (first | apply Kd.R_alloc | apply Kd.R_drewN | apply Kd.R_drew)); exact HO1395.out) hb); have n3_ := Aside0.mk (Kd.R_lower (Kd.R_new' ho0 (Kd.R_lt (by (with_reducible repeat (first | apply Kd.R_alloc | apply Kd.R_drewN | apply Kd.R_drew)); exact HO1389.out))) (below_size (by repeat (first | (with_reducible first | exact HB.out | apply bwA | apply pwN | apply bw1 | refine below_set ?_ GE1356.out) | exact HB.out)))); have n4_ := Aside0.mk (blk_below (g := gb1356) (o := .cells #[.int .i8 F0, .int .i8 F1, .int .i8 F2, .int .i8 F3, .int .i8 F4, .int .i8 F5, .int .i8 F6, .int .i8 F7, .int .i8 F8, .int .i8 F9, .int .i8 F10, .int .i8 F11, .int .i8 F12, .int .i8 F13, .int .i8 F14, .int .i8 F15, .int .i8 F16, .int .i8 F17, .int .i8 F18, .int .i8 F19, .int .i8 F20, .int .i8 F21, .int .i8 F22, .int .i8 F23, .int .i8 F24, .int .i8 F25, .int .i8 F26, .int .i8 F27, .slice A0_28 l0_28.length c0_28] 26 (0, 0)) (by (with_reducible repeat (first | refine blk_drewN ?_ _ | refine blk_drew ?_ | refine blk_alloc ?_ _)); exact BK1356.out) hb); have n5_ := Aside0.mk (below_step (by repeat (first | (with_reducible first | exact HB.out | apply bwA | apply pwN | apply bw1 | refine below_set ?_ GE1356.out) | exact HB.out)) hb); clear HO1389; clear HO1392; clear HO1395; clear BK1356; clear HB; have HO1389 := n0_; have HO1392 := n1_; have HO1395 := n2_; have HO1427 := n3_; have BK1356 := n4_; have HB := n5_; clear n0_ n1_ n2_ n3_ n4_ n5_; (try clear hb); (try clear hb2); (try clear hk); (try clear hi); (try clear ho0)) | ((with_reducible refine gate_dst (N := 16) rfl ?_); refine box_event ?hg (N := 16) ?hd (cs := #[.int .i8 0, .int .i8 0, .int .i8 0, .int .i8 0, .int .i8 0, .int .i8 0, .int .i8 0, .int .i8 0, .int .i8 0, .int .i8 0, .int .i8 0, .int .i8 0, .int .i8 0, .int .i8 0, .int .i8 0, .int .i8 0, .int .i8 0, .int .i8 0, .int .i8 0, .int .i8 0, .int .i8 0, .int .i8 0, .int .i8 0, .int .i8 0, .int .i8 0, .int .i8 0, .int .i8 0, .int .i8 0, .slice none 0 0]) (t := 32) ?hr ?_; (case hd => rfl); (case hg => rfl); (case hr => first | (go_simp; done) | (go_simp; rfl)); intro gb1428 hg w34 hbox hb; have n0_ := Aside0.mk (Kd.R_below (by (with_reducible repeat (first | apply Kd.R_alloc | apply Kd.R_drewN | apply Kd.R_drew)); exact HO1389.out) hb); have n1_ := Aside0.mk (Kd.R_below (by (with_reducible repeat (first | apply Kd.R_alloc | apply Kd.R_drewN | apply Kd.R_drew)); exact HO1392.out) hb); have n2_ := Aside0.mk (Kd.R_below (by (with_reducible repeat (first | apply Kd.R_alloc | apply Kd.R_drewN | apply Kd.R_drew)); exact HO1395.out) hb); have n3_ := Aside0.mk (Kd.R_below (by (with_reducible repeat (first | apply Kd.R_alloc | apply Kd.R_drewN | apply Kd.R_drew)); exact HO1427.out) hb); have n4_ := Aside0.mk (blk_below (g := gb1356) (o := .cells #[.int .i8 F0, .int .i8 F1, .int .i8 F2, .int .i8 F3, .int .i8 F4, .int .i8 F5, .int .i8 F6, .int .i8 F7, .int .i8 F8, .int .i8 F9, .int .i8 F10, .int .i8 F11, .int .i8 F12, .int .i8 F13, .int .i8 F14, .int .i8 F15, .int .i8 F16, .int .i8 F17, .int .i8 F18, .int .i8 F19, .int .i8 F20, .int .i8 F21, .int .i8 F22, .int .i8 F23, .int .i8 F24, .int .i8 F25, .int .i8 F26, .int .i8 F27, .slice A0_28 l0_28.length c0_28] 26 (0, 0)) (by (with_reducible repeat (first | refine blk_drewN ?_ _ | refine blk_drew ?_ | refine blk_alloc ?_ _)); exact BK1356.out) hb); have n5_ := Aside0.mk (below_step (by repeat (first | (with_reducible first | exact HB.out | apply bwA | apply pwN | apply bw1 | refine below_set ?_ GE1356.out) | exact HB.out)) hb); have n6_ := Aside0.mk (hbox); have n7_ := Aside0.mk ((by rw [hg]; exact (below_size (by repeat (first | (with_reducible first | exact HB.out | apply bwA | apply pwN | apply bw1 | refine below_set ?_ GE1356.out) | exact HB.out))) : w.heap.size ≤ gb1428)); have n8_ := Aside0.mk ((by rw [hg]; exact (below_size (by repeat (first | (with_reducible first | exact HB.out | apply bwA | apply pwN | apply bw1 | refine below_set ?_ GE1356.out) | exact HB.out))) : w.heap.size ≤ gb1428)); have n9_ := Aside0.mk ((by rw [hg]; exact Nat.ne_of_lt (blk_lt (g := gb1356) (o := .cells #[.int .i8 F0, .int .i8 F1, .int .i8 F2, .int .i8 F3, .int .i8 F4, .int .i8 F5, .int .i8 F6, .int .i8 F7, .int .i8 F8, .int .i8 F9, .int .i8 F10, .int .i8 F11, .int .i8 F12, .int .i8 F13, .int .i8 F14, .int .i8 F15, .int .i8 F16, .int .i8 F17, .int .i8 F18, .int .i8 F19, .int .i8 F20, .int .i8 F21, .int .i8 F22, .int .i8 F23, .int .i8 F24, .int .i8 F25, .int .i8 F26, .int .i8 F27, .slice A0_28 l0_28.length c0_28] 26 (0, 0)) (by (with_reducible repeat (first | refine blk_drewN ?_ _ | refine blk_drew ?_ | refine blk_alloc ?_ _)); exact BK1356.out)) : gb1356 ≠ gb1428)); have n10_ := Aside0.mk ((by rw [hg]; exact Nat.ne_of_gt (blk_lt (g := gb1356) (o := .cells #[.int .i8 F0, .int .i8 F1, .int .i8 F2, .int .i8 F3, .int .i8 F4, .int .i8 F5, .int .i8 F6, .int .i8 F7, .int .i8 F8, .int .i8 F9, .int .i8 F10, .int .i8 F11, .int .i8 F12, .int .i8 F13, .int .i8 F14, .int .i8 F15, .int .i8 F16, .int .i8 F17, .int .i8 F18, .int .i8 F19, .int .i8 F20, .int .i8 F21, .int .i8 F22, .int .i8 F23, .int .i8 F24, .int .i8 F25, .int .i8 F26, .int .i8 F27, .slice A0_28 l0_28.length c0_28] 26 (0, 0)) (by (with_reducible repeat (first | refine blk_drewN ?_ _ | refine blk_drew ?_ | refine blk_alloc ?_ _)); exact BK1356.out)) : gb1428 ≠ gb1356)); clear HO1389; clear HO1392; clear HO1395; clear HO1427; clear BK1356; clear HB; have HO1389 := n0_; have HO1392 := n1_; have HO1395 := n2_; have HO1427 := n3_; have BK1356 := n4_; have HB := n5_; have BK1428 := n6_; have GW1428 := n7_; have GE1428 := n8_; have NB1356_1428 := n9_; have NB1428_1356 := n10_; clear n0_ n1_ n2_ n3_ n4_ n5_ n6_ n7_ n8_ n9_ n10_; clear hb hbox hg; obtain ⟨Ao35, co35, eo35⟩ := Kd.R_slice HO1427.out; subst eo35) | ((with_reducible refine gate_store (t := 32) (p := 16) rfl ?_); refine ev_store_partx_ rfl 32 (.tmp 16) (.tmp 54) rfl rfl gb1428 0 [] [.int .i8 0, .int .i8 0, .int .i8 0, .int .i8 0, .int .i8 0, .int .i8 0, .int .i8 0, .int .i8 0, .int .i8 0, .int .i8 0, .int .i8 0, .int .i8 0, .int .i8 0, .int .i8 0, .int .i8 0, .int .i8 0, .int .i8 0, .int .i8 0, .int .i8 0, .int .i8 0, .int .i8 0, .int .i8 0, .int .i8 0, .int .i8 0, .int .i8 0, .int .i8 0, .int .i8 0, .int .i8 0, .slice none 0 0] [.int .i8 t1397, .int .i8 t1398, .int .i8 t1399, .int .i8 t1400, .int .i8 t1401, .int .i8 t1402, .int .i8 t1403, .int .i8 t1404, .int .i8 t1405, .int .i8 t1406, .int .i8 t1407, .int .i8 t1408, .int .i8 t1409, .int .i8 t1410, .int .i8 t1411, .int .i8 t1412, .int .i8 t1413, .int .i8 t1414, .int .i8 t1415, .int .i8 t1416, .int .i8 t1417, .int .i8 t1418, .int .i8 t1419, .int .i8 t1420, .int .i8 t1421, .int .i8 t1422, .int .i8 t1423, .int .i8 t1424, .slice Ao35 t1425.length co35] [] rfl rfl 32 rfl rfl (by (with_reducible repeat (first | refine blk_drewN ?_ _ | refine blk_drew ?_ | refine blk_alloc ?_ _)); exact BK1428.out) (by exact (show (Tryd.prog.info? 32).map (·.size) = some 29 by kernel_rfl)) rfl ?_; intro w36 hblk hkep hbel; have n0_ := Aside0.mk ((show w36.heap[gb1428]? = some (.cells #[.int .i8 t1397, .int .i8 t1398, .int .i8 t1399, .int .i8 t1400, .int .i8 t1401, .int .i8 t1402, .int .i8 t1403, .int .i8 t1404, .int .i8 t1405, .int .i8 t1406, .int .i8 t1407, .int .i8 t1408, .int .i8 t1409, .int .i8 t1410, .int .i8 t1411, .int .i8 t1412, .int .i8 t1413, .int .i8 t1414, .int .i8 t1415, .int .i8 t1416, .int .i8 t1417, .int .i8 t1418, .int .i8 t1419, .int .i8 t1420, .int .i8 t1421, .int .i8 t1422, .int .i8 t1423, .int .i8 t1424, .slice Ao35 t1425.length co35] 32 (0, 0)) from hblk)); have n1_ := Aside0.mk (blk_kept (by (with_reducible repeat (first | refine blk_drewN ?_ _ | refine blk_drew ?_ | refine blk_alloc ?_ _)); exact BK1356.out) hkep (fun e_ => NB1356_1428.out e_)); have n2_ := Aside0.mk (Kd.R_mono (Kd.R_kept (Kd.R_types (by (with_reducible repeat (first | apply Kd.R_alloc | apply Kd.R_drewN | apply Kd.R_drew)); exact HO1389.out) (by (with_reducible repeat (first | refine blk_drewN ?_ _ | refine blk_drew ?_ | refine blk_alloc ?_ _)); exact BK1428.out) (by decide)) hkep (fun k_ hk e_ => hk.2 e_)) (fun k_ hk => hk.1)); have n3_ := Aside0.mk (Kd.R_mono (Kd.R_kept (Kd.R_types (by (with_reducible repeat (first | apply Kd.R_alloc | apply Kd.R_drewN | apply Kd.R_drew)); exact HO1392.out) (by (with_reducible repeat (first | refine blk_drewN ?_ _ | refine blk_drew ?_ | refine blk_alloc ?_ _)); exact BK1428.out) (by decide)) hkep (fun k_ hk e_ => hk.2 e_)) (fun k_ hk => hk.1)); have n4_ := Aside0.mk (Kd.R_mono (Kd.R_kept (Kd.R_types (by (with_reducible repeat (first | apply Kd.R_alloc | apply Kd.R_drewN | apply Kd.R_drew)); exact HO1395.out) (by (with_reducible repeat (first | refine blk_drewN ?_ _ | refine blk_drew ?_ | refine blk_alloc ?_ _)); exact BK1428.out) (by decide)) hkep (fun k_ hk e_ => hk.2 e_)) (fun k_ hk => hk.1)); have n5_ := Aside0.mk (Kd.R_mono (Kd.R_kept (Kd.R_types (by (with_reducible repeat (first | apply Kd.R_alloc | apply Kd.R_drewN | apply Kd.R_drew)); exact HO1427.out) (by (with_reducible repeat (first | refine blk_drewN ?_ _ | refine blk_drew ?_ | refine blk_alloc ?_ _)); exact BK1428.out) (by decide)) hkep (fun k_ hk e_ => hk.2 e_)) (fun k_ hk => hk.1)); have n6_ := Aside0.mk ((show Below w.heap.size w w36 from Below.trans (by repeat (first | (with_reducible first | exact HB.out | apply bwA | apply pwN | apply bw1 | refine below_set ?_ GE1356.out | refine below_set ?_ GE1428.out) | exact HB.out)) (hbel _ GW1428.out))); clear BK1428; clear BK1356; clear HO1389; clear HO1392; clear HO1395; clear HO1427; clear HB; have BK1428 := n0_; have BK1356 := n1_; have HO1389 := n2_; have HO1392 := n3_; have HO1395 := n4_; have HO1427 := n5_; have HB := n6_; clear n0_ n1_ n2_ n3_ n4_ n5_ n6_; clear hblk hkep hbel) | ((with_reducible refine gate_callee (f := 41) rfl ?_); refine goesL_ (some 56) rfl rfl Tryd.func41 (by kernel_rfl) rfl #[.slice A3 l3.length c3] rfl (by (try simp only [List.map_toArray, List.map_cons, List.map_nil]); first | done | rfl | (simp only [List.length_drop, List.length_take]; rfl)) ?_; (with_reducible refine (laws_toStringS.calls k _ _ l3 t1429 _ ?side1 ?side2 A23.out).mono ?_); (case side1 => repeat (first | exact (Kd.C_below HR3.out HB.out) | (with_reducible refine Kd.C_alloc ?_ _) | (with_reducible refine Kd.C_drewN ?_ _) | (with_reducible refine Kd.C_drew ?_))); (case side2 => exact HC3.out); rintro e w37 ⟨v1430, rfl, ho0, hb⟩; refine ⟨_, rfl, ?_⟩; have n0_ := Aside0.mk (Kd.R_below (by (with_reducible repeat (first | apply Kd.R_alloc | apply Kd.R_drewN | apply Kd.R_drew)); exact HO1389.out) hb); have n1_ := Aside0.mk (Kd.R_elder' (by (with_reducible repeat (first | apply Kd.R_alloc | apply Kd.R_drewN | apply Kd.R_drew)); exact HO1392.out) (Kd.R_base ho0) hb); have n2_ := Aside0.mk (Kd.R_below (by (with_reducible repeat (first | apply Kd.R_alloc | apply Kd.R_drewN | apply Kd.R_drew)); exact HO1395.out) hb); have n3_ := Aside0.mk (Kd.R_below (by (with_reducible repeat (first | apply Kd.R_alloc | apply Kd.R_drewN | apply Kd.R_drew)); exact HO1427.out) hb); have n4_ := Aside0.mk (Kd.R_lower (Kd.R_new' ho0 (Kd.R_lt (by (with_reducible repeat (first | apply Kd.R_alloc | apply Kd.R_drewN | apply Kd.R_drew)); exact HO1392.out))) (below_size (by repeat (first | (with_reducible first | exact HB.out | apply bwA | apply pwN | apply bw1 | refine below_set ?_ GE1356.out | refine below_set ?_ GE1428.out) | exact HB.out)))); have n5_ := Aside0.mk (blk_below (g := gb1356) (o := .cells #[.int .i8 F0, .int .i8 F1, .int .i8 F2, .int .i8 F3, .int .i8 F4, .int .i8 F5, .int .i8 F6, .int .i8 F7, .int .i8 F8, .int .i8 F9, .int .i8 F10, .int .i8 F11, .int .i8 F12, .int .i8 F13, .int .i8 F14, .int .i8 F15, .int .i8 F16, .int .i8 F17, .int .i8 F18, .int .i8 F19, .int .i8 F20, .int .i8 F21, .int .i8 F22, .int .i8 F23, .int .i8 F24, .int .i8 F25, .int .i8 F26, .int .i8 F27, .slice A0_28 l0_28.length c0_28] 26 (0, 0)) (by (with_reducible repeat (first | refine blk_drewN ?_ _ | refine blk_drew ?_ | refine blk_alloc ?_ _)); exact BK1356.out) hb); have n6_ := Aside0.mk (blk_below (g := gb1428) (o := .cells #[.int .i8 t1397, .int .i8 t1398, .int .i8 t1399, .int .i8 t1400, .int .i8 t1401, .int .i8 t1402, .int .i8 t1403, .int .i8 t1404, .int .i8 t1405, .int .i8 t1406, .int .i8 t1407, .int .i8 t1408, .int .i8 t1409, .int .i8 t1410, .int .i8 t1411, .int .i8 t1412, .int .i8 t1413, .int .i8 t1414, .int .i8 t1415, .int .i8 t1416, .int .i8 t1417, .int .i8 t1418, .int .i8 t1419, .int .i8 t1420, .int .i8 t1421, .int .i8 t1422, .int .i8 t1423, .int .i8 t1424, .slice Ao35 t1425.length co35] 32 (0, 0)) (by (with_reducible repeat (first | refine blk_drewN ?_ _ | refine blk_drew ?_ | refine blk_alloc ?_ _)); exact BK1428.out) hb); have n7_ := Aside0.mk (below_step (by repeat (first | (with_reducible first | exact HB.out | apply bwA | apply pwN | apply bw1 | refine below_set ?_ GE1356.out | refine below_set ?_ GE1428.out) | exact HB.out)) hb); clear HO1389; clear HO1392; clear HO1395; clear HO1427; clear BK1356; clear BK1428; clear HB; have HO1389 := n0_; have HO1392 := n1_; have HO1395 := n2_; have HO1427 := n3_; have HO1431 := n4_; have BK1356 := n5_; have BK1428 := n6_; have HB := n7_; clear n0_ n1_ n2_ n3_ n4_ n5_ n6_ n7_; (try clear hb); (try clear hb2); (try clear hk); (try clear hi); (try clear ho0)) | ((with_reducible refine gate_dst (N := 58) rfl ?_); refine wpList_load_mid rfl 32 (.tmp 16) rfl gb1428 0 rfl [.int .i8 t1397, .int .i8 t1398, .int .i8 t1399, .int .i8 t1400, .int .i8 t1401, .int .i8 t1402, .int .i8 t1403, .int .i8 t1404, .int .i8 t1405, .int .i8 t1406, .int .i8 t1407, .int .i8 t1408, .int .i8 t1409, .int .i8 t1410, .int .i8 t1411, .int .i8 t1412, .int .i8 t1413, .int .i8 t1414, .int .i8 t1415, .int .i8 t1416, .int .i8 t1417, .int .i8 t1418, .int .i8 t1419, .int .i8 t1420, .int .i8 t1421, .int .i8 t1422, .int .i8 t1423, .int .i8 t1424, .slice Ao35 t1425.length co35] _ (range_partx_ [] [.int .i8 t1397, .int .i8 t1398, .int .i8 t1399, .int .i8 t1400, .int .i8 t1401, .int .i8 t1402, .int .i8 t1403, .int .i8 t1404, .int .i8 t1405, .int .i8 t1406, .int .i8 t1407, .int .i8 t1408, .int .i8 t1409, .int .i8 t1410, .int .i8 t1411, .int .i8 t1412, .int .i8 t1413, .int .i8 t1414, .int .i8 t1415, .int .i8 t1416, .int .i8 t1417, .int .i8 t1418, .int .i8 t1419, .int .i8 t1420, .int .i8 t1421, .int .i8 t1422, .int .i8 t1423, .int .i8 t1424, .slice Ao35 t1425.length co35] [] 0 rfl (by (with_reducible repeat (first | refine blk_drewN ?_ _ | refine blk_drew ?_ | refine blk_alloc ?_ _)); exact BK1428.out)) Tryd.underlying32 rfl (by exact (show (Tryd.prog.info? 32).map (·.size) = some 29 by kernel_rfl)) ?_; obtain ⟨Ao38, co38, eo38⟩ := Kd.R_slice HO1431.out; subst eo38) | ((with_reducible refine gate_callee (f := 45) rfl ?_); refine goesL_ (some 64) rfl rfl Tryd.func45 (by kernel_rfl) rfl #[.agg #[.int .i8 t1397, .int .i8 t1398, .int .i8 t1399, .int .i8 t1400, .int .i8 t1401, .int .i8 t1402, .int .i8 t1403, .int .i8 t1404, .int .i8 t1405, .int .i8 t1406, .int .i8 t1407, .int .i8 t1408, .int .i8 t1409, .int .i8 t1410, .int .i8 t1411, .int .i8 t1412, .int .i8 t1413, .int .i8 t1414, .int .i8 t1415, .int .i8 t1416, .int .i8 t1417, .int .i8 t1418, .int .i8 t1419, .int .i8 t1420, .int .i8 t1421, .int .i8 t1422, .int .i8 t1423, .int .i8 t1424, .slice Ao35 t1425.length co35], .string a1, .string a2, .slice Ao38 t1429.length co38, .int .i64 a4, .int .i64 a5] rfl (by (try simp only [List.map_toArray, List.map_cons, List.map_nil]); first | done | rfl | (simp only [List.length_drop, List.length_take]; rfl)) ?_; (with_reducible refine (impl_FillWord.calls t1397 t1398 t1399 t1400 t1401 t1402 t1403 t1404 t1405 t1406 t1407 t1408 t1409 t1410 t1411 t1412 t1413 t1414 t1415 t1416 t1417 t1418 t1419 t1420 t1421 t1422 t1423 t1424 _ _ t1425 a1 a2 _ _ t1429 a4 a5 t1432 t1435 _ ?side1 ?side2 ?side3 ?side4 ?sideG A24.out).mono ?_); (case sideG => first | exact HG.out.below (by repeat (first | (with_reducible first | exact HB.out | apply bwA | apply pwN | apply bw1) | exact HB.out)) | exact (HG.out.below (by repeat (first | (with_reducible first | exact HB.out | apply bwA | apply pwN | apply bw1) | exact HB.out))).toM); (case side1 => repeat (first | exact (Kd.R_reads' HO1427.out).2.2 | (with_reducible refine Kd.C_alloc ?_ _) | (with_reducible refine Kd.C_drewN ?_ _) | (with_reducible refine Kd.C_drew ?_))); (case side2 => exact (Kd.R_reads' HO1427.out).2.1); (case side3 => repeat (first | exact (Kd.R_reads' HO1431.out).2.2 | (with_reducible refine Kd.C_alloc ?_ _) | (with_reducible refine Kd.C_drewN ?_ _) | (with_reducible refine Kd.C_drew ?_))); (case side4 => exact (Kd.R_reads' HO1431.out).2.1); rintro e w39 ⟨v1433, rfl, ho0, hb⟩; refine ⟨_, rfl, ?_⟩; have n0_ := Aside0.mk (Kd.R_below (by (with_reducible repeat (first | apply Kd.R_alloc | apply Kd.R_drewN | apply Kd.R_drew)); exact HO1389.out) hb); have n1_ := Aside0.mk (Kd.R_below (by (with_reducible repeat (first | apply Kd.R_alloc | apply Kd.R_drewN | apply Kd.R_drew)); exact HO1392.out) hb); have n2_ := Aside0.mk (Kd.R_elder' (by (with_reducible repeat (first | apply Kd.R_alloc | apply Kd.R_drewN | apply Kd.R_drew)); exact HO1395.out) (Kd.R_base ho0) hb); have n3_ := Aside0.mk (Kd.R_below (by (with_reducible repeat (first | apply Kd.R_alloc | apply Kd.R_drewN | apply Kd.R_drew)); exact HO1427.out) hb); have n4_ := Aside0.mk (Kd.R_below (by (with_reducible repeat (first | apply Kd.R_alloc | apply Kd.R_drewN | apply Kd.R_drew)); exact HO1431.out) hb); have n5_ := Aside0.mk (Kd.R_lower (Kd.R_new' ho0 (Kd.R_lt (by (with_reducible repeat (first | apply Kd.R_alloc | apply Kd.R_drewN | apply Kd.R_drew)); exact HO1395.out))) (below_size (by repeat (first | (with_reducible first | exact HB.out | apply bwA | apply pwN | apply bw1 | refine below_set ?_ GE1356.out | refine below_set ?_ GE1428.out) | exact HB.out)))); have n6_ := Aside0.mk (blk_below (g := gb1356) (o := .cells #[.int .i8 F0, .int .i8 F1, .int .i8 F2, .int .i8 F3, .int .i8 F4, .int .i8 F5, .int .i8 F6, .int .i8 F7, .int .i8 F8, .int .i8 F9, .int .i8 F10, .int .i8 F11, .int .i8 F12, .int .i8 F13, .int .i8 F14, .int .i8 F15, .int .i8 F16, .int .i8 F17, .int .i8 F18, .int .i8 F19, .int .i8 F20, .int .i8 F21, .int .i8 F22, .int .i8 F23, .int .i8 F24, .int .i8 F25, .int .i8 F26, .int .i8 F27, .slice A0_28 l0_28.length c0_28] 26 (0, 0)) (by (with_reducible repeat (first | refine blk_drewN ?_ _ | refine blk_drew ?_ | refine blk_alloc ?_ _)); exact BK1356.out) hb); have n7_ := Aside0.mk (blk_below (g := gb1428) (o := .cells #[.int .i8 t1397, .int .i8 t1398, .int .i8 t1399, .int .i8 t1400, .int .i8 t1401, .int .i8 t1402, .int .i8 t1403, .int .i8 t1404, .int .i8 t1405, .int .i8 t1406, .int .i8 t1407, .int .i8 t1408, .int .i8 t1409, .int .i8 t1410, .int .i8 t1411, .int .i8 t1412, .int .i8 t1413, .int .i8 t1414, .int .i8 t1415, .int .i8 t1416, .int .i8 t1417, .int .i8 t1418, .int .i8 t1419, .int .i8 t1420, .int .i8 t1421, .int .i8 t1422, .int .i8 t1423, .int .i8 t1424, .slice Ao35 t1425.length co35] 32 (0, 0)) (by (with_reducible repeat (first | refine blk_drewN ?_ _ | refine blk_drew ?_ | refine blk_alloc ?_ _)); exact BK1428.out) hb); have n8_ := Aside0.mk (below_step (by repeat (first | (with_reducible first | exact HB.out | apply bwA | apply pwN | apply bw1 | refine below_set ?_ GE1356.out | refine below_set ?_ GE1428.out) | exact HB.out)) hb); clear HO1389; clear HO1392; clear HO1395; clear HO1427; clear HO1431; clear BK1356; clear BK1428; clear HB; have HO1389 := n0_; have HO1392 := n1_; have HO1395 := n2_; have HO1427 := n3_; have HO1431 := n4_; have HO1434 := n5_; have BK1356 := n6_; have BK1428 := n7_; have HB := n8_; clear n0_ n1_ n2_ n3_ n4_ n5_ n6_ n7_ n8_; (try clear hb); (try clear hb2); (try clear hk); (try clear hi); (try clear ho0)))
     (try simp only [Act.put, List.setIfInBounds_toArray, List.set_cons_zero, List.set_cons_succ])
     go_cut [75] (fun v75 wc => ∃ (kq : Nat) (x75_24 : Bool), v75 = .bool x75_24 ∧ Aside0 (laws_FnExactFillWord.j0 kq a1 a2 l3 a4 a5 t1393 t1396 t1429 t1432 t1435 x75_24 F0 F1 F2 F3 F4 F5 F6 F7 F8 F9 F10 F11 F12 F13 F14 F15 F16 F17 F18 F19 F20 F21 F22 F23 F24 F25 F26 F27 l0_28 t1397 t1398 t1399 t1400 t1401 t1402 t1403 t1404 t1405 t1406 t1407 t1408 t1409 t1410 t1411 t1412 t1413 t1414 t1415 t1416 t1417 t1418 t1419 t1420 t1421 t1422 t1423 t1424 t1425 = some r) ∧ Aside0 (kq ≤ k) ∧ Aside0 (Kd.R (Kd.int .i64) 2 wc w.heap.size (fun k_ => some k_ ≠ (v1433 : Value).ownBlock) v1394 t1393) ∧ Aside0 (Kd.R Kd.string 9 wc w.heap.size (fun _ => True) (.slice Ao38 t1429.length co38) t1429) ∧ Aside0 (Kd.R (Kd.int .i64) 2 wc w.heap.size (fun k_ => some k_ ≠ (v1394 : Value).ownBlock) v1433 t1432) ∧ Aside0 (Kd.R k137 137 wc w.heap.size (fun _ => True) (.slice Ao35 t1425.length co35) t1425) ∧ Aside0 (wc.heap[gb1356]? = some (.cells #[.int .i8 F0, .int .i8 F1, .int .i8 F2, .int .i8 F3, .int .i8 F4, .int .i8 F5, .int .i8 F6, .int .i8 F7, .int .i8 F8, .int .i8 F9, .int .i8 F10, .int .i8 F11, .int .i8 F12, .int .i8 F13, .int .i8 F14, .int .i8 F15, .int .i8 F16, .int .i8 F17, .int .i8 F18, .int .i8 F19, .int .i8 F20, .int .i8 F21, .int .i8 F22, .int .i8 F23, .int .i8 F24, .int .i8 F25, .int .i8 F26, .int .i8 F27, (.slice A0_28 l0_28.length c0_28)] 26 (0, 0))) ∧ Aside0 (wc.heap[gb1428]? = some (.cells #[.int .i8 t1397, .int .i8 t1398, .int .i8 t1399, .int .i8 t1400, .int .i8 t1401, .int .i8 t1402, .int .i8 t1403, .int .i8 t1404, .int .i8 t1405, .int .i8 t1406, .int .i8 t1407, .int .i8 t1408, .int .i8 t1409, .int .i8 t1410, .int .i8 t1411, .int .i8 t1412, .int .i8 t1413, .int .i8 t1414, .int .i8 t1415, .int .i8 t1416, .int .i8 t1417, .int .i8 t1418, .int .i8 t1419, .int .i8 t1420, .int .i8 t1421, .int .i8 t1422, .int .i8 t1423, .int .i8 t1424, (.slice Ao35 t1425.length co35)] 32 (0, 0))) ∧ Aside0 (Below w.heap.size w wc))
     case first =>
      have H := HC25.out
      clear HC25
      replace H := Option.bind_eq_some_iff.mp H
      obtain ⟨t1436, A400, H⟩ := H
      (try dsimp only at H)
      have A40 := Aside0.mk A400
      clear A400
      by_cases c41 : t1436 = true
      ·subst c41
       rw [if_pos rfl] at H
       have H1 := H
       clear H
       have H := H1
       clear H1
       have H' := Aside0.mk H
       clear H
       obtain ⟨Ao42, co42, eo42⟩ := Kd.R_slice HO1434.out
       subst eo42
       obtain ⟨Ao43, co43, eo43⟩ := Kd.R_slice HO1395.out
       subst eo43
       go_wp2_with (first | ((with_reducible refine gate_callee (f := 29) rfl ?_); refine goesL_ (some 69) rfl rfl Tryd.func29 (by kernel_rfl) rfl #[.slice Ao42 t1432.length co42, .slice Ao43 t1393.length co43] rfl (by (try simp only [List.map_toArray, List.map_cons, List.map_nil]); first | done | rfl | (simp only [List.length_drop, List.length_take]; rfl)) ?_; (with_reducible refine (laws_eqInt64S.calls k _ _ t1432 _ _ t1393 true _ ?side1 ?side2 ?side3 ?side4 A40.out).mono ?_); (case side1 => repeat (first | exact (Kd.R_reads' HO1434.out).2.2 | (with_reducible refine Kd.C_alloc ?_ _) | (with_reducible refine Kd.C_drewN ?_ _) | (with_reducible refine Kd.C_drew ?_))); (case side2 => exact (Kd.R_reads' HO1434.out).2.1); (case side3 => repeat (first | exact (Kd.R_reads' HO1395.out).2.2 | (with_reducible refine Kd.C_alloc ?_ _) | (with_reducible refine Kd.C_drewN ?_ _) | (with_reducible refine Kd.C_drew ?_))); (case side4 => exact (Kd.R_reads' HO1395.out).2.1); rintro e w' ⟨rfl, ⟨nd, rfl⟩⟩; refine ⟨_, rfl, ?_⟩))
       go_meet
       case rel => exact ⟨_, ((t1435 != t1396)), (by first | rfl | (simp; done) | (simp [*]; done)), H', ⟨by first | omega | exact Nat.le_refl _⟩, ⟨by (with_reducible repeat (first | apply Kd.R_alloc | apply Kd.R_drewN | apply Kd.R_drew)); exact Kd.R_mono HO1395.out (fun _ hk => hk.2)⟩, ⟨by (with_reducible repeat (first | apply Kd.R_alloc | apply Kd.R_drewN | apply Kd.R_drew)); exact Kd.R_mono HO1431.out (fun _ hk => trivial)⟩, ⟨by (with_reducible repeat (first | apply Kd.R_alloc | apply Kd.R_drewN | apply Kd.R_drew)); exact Kd.R_mono HO1434.out (fun _ hk => hk.2)⟩, ⟨by (with_reducible repeat (first | apply Kd.R_alloc | apply Kd.R_drewN | apply Kd.R_drew)); exact Kd.R_mono HO1427.out (fun _ hk => trivial)⟩, ⟨by (with_reducible repeat (first | refine blk_drewN ?_ _ | refine blk_drew ?_ | refine blk_alloc ?_ _)); exact BK1356.out⟩, ⟨by (with_reducible repeat (first | refine blk_drewN ?_ _ | refine blk_drew ?_ | refine blk_alloc ?_ _)); exact BK1428.out⟩, ⟨by repeat (first | (with_reducible first | exact HB.out | apply bwA | apply pwN | apply bw1 | refine below_set ?_ GE1356.out | refine below_set ?_ GE1428.out) | exact HB.out)⟩⟩
      ·replace c41 := Bool.eq_false_iff.mpr c41
       subst c41
       rw [if_neg (show ¬ (false = true) by decide)] at H
       have H1 := H
       clear H
       have H := H1
       clear H1
       have H' := Aside0.mk H
       clear H
       obtain ⟨Ao44, co44, eo44⟩ := Kd.R_slice HO1434.out
       subst eo44
       obtain ⟨Ao45, co45, eo45⟩ := Kd.R_slice HO1395.out
       subst eo45
       go_wp2_with (first | ((with_reducible refine gate_callee (f := 29) rfl ?_); refine goesL_ (some 69) rfl rfl Tryd.func29 (by kernel_rfl) rfl #[.slice Ao44 t1432.length co44, .slice Ao45 t1393.length co45] rfl (by (try simp only [List.map_toArray, List.map_cons, List.map_nil]); first | done | rfl | (simp only [List.length_drop, List.length_take]; rfl)) ?_; (with_reducible refine (laws_eqInt64S.calls k _ _ t1432 _ _ t1393 false _ ?side1 ?side2 ?side3 ?side4 A40.out).mono ?_); (case side1 => repeat (first | exact (Kd.R_reads' HO1434.out).2.2 | (with_reducible refine Kd.C_alloc ?_ _) | (with_reducible refine Kd.C_drewN ?_ _) | (with_reducible refine Kd.C_drew ?_))); (case side2 => exact (Kd.R_reads' HO1434.out).2.1); (case side3 => repeat (first | exact (Kd.R_reads' HO1395.out).2.2 | (with_reducible refine Kd.C_alloc ?_ _) | (with_reducible refine Kd.C_drewN ?_ _) | (with_reducible refine Kd.C_drew ?_))); (case side4 => exact (Kd.R_reads' HO1395.out).2.1); rintro e w' ⟨rfl, ⟨nd, rfl⟩⟩; refine ⟨_, rfl, ?_⟩))
       go_meet
       case rel => exact ⟨_, (true), (by first | rfl | (simp; done) | (simp [*]; done)), H', ⟨by first | omega | exact Nat.le_refl _⟩, ⟨by (with_reducible repeat (first | apply Kd.R_alloc | apply Kd.R_drewN | apply Kd.R_drew)); exact Kd.R_mono HO1395.out (fun _ hk => hk.2)⟩, ⟨by (with_reducible repeat (first | apply Kd.R_alloc | apply Kd.R_drewN | apply Kd.R_drew)); exact Kd.R_mono HO1431.out (fun _ hk => trivial)⟩, ⟨by (with_reducible repeat (first | apply Kd.R_alloc | apply Kd.R_drewN | apply Kd.R_drew)); exact Kd.R_mono HO1434.out (fun _ hk => hk.2)⟩, ⟨by (with_reducible repeat (first | apply Kd.R_alloc | apply Kd.R_drewN | apply Kd.R_drew)); exact Kd.R_mono HO1427.out (fun _ hk => trivial)⟩, ⟨by (with_reducible repeat (first | refine blk_drewN ?_ _ | refine blk_drew ?_ | refine blk_alloc ?_ _)); exact BK1356.out⟩, ⟨by (with_reducible repeat (first | refine blk_drewN ?_ _ | refine blk_drew ?_ | refine blk_alloc ?_ _)); exact BK1428.out⟩, ⟨by repeat (first | (with_reducible first | exact HB.out | apply bwA | apply pwN | apply bw1 | refine below_set ?_ GE1356.out | refine below_set ?_ GE1428.out) | exact HB.out)⟩⟩
     case rest =>
      clear HC25
      try clear c1
      try clear c2
      try clear p2
      try clear c3
      try clear c4
      try clear c7
      try clear c7b0
      try clear c7b1
      try clear c9
      try clear c9b0
      try clear c9b1
      try clear c11
      try clear c12
      try clear c12b0
      try clear c16
      try clear c16b0
      try clear c18
      try clear c20
      try clear c29
      try clear c39
      try clear c41
      try clear c44
      try clear c45
      obtain ⟨kq, x75_24, rfl, HA, HJ24, HO_14, HO_17, HO_18, HO_1429028, BK1356, BK1428, HB⟩ := hcut
      cases kq with
      | zero => exact absurd HA.out (by simp [laws_FnExactFillWord.j0])
      | succ kj24 =>
       have H := HA.out
       clear HA
       simp only [laws_FnExactFillWord.j0] at H
       by_cases c46 : x75_24 = true
       ·subst c46
        rw [if_pos rfl] at H
        have H1 := H
        clear H
        have H := H1
        clear H1
        obtain rfl := Option.some.inj H
        go_wp2
        go_ret
        exact ⟨by first | rfl | (simp [errW_none, errW_some] <;> rfl) | (simp [*, errW_none, errW_some] <;> rfl), by repeat (first | (with_reducible first | exact HB.out | apply bwA | apply pwN | apply bw1 | refine below_set ?_ GE1356.out | refine below_set ?_ GE1428.out) | exact HB.out)⟩
       ·replace c46 := Bool.eq_false_iff.mpr c46
        subst c46
        rw [if_neg (show ¬ (false = true) by decide)] at H
        have H1 := H
        clear H
        have H := H1
        clear H1
        replace H := Option.bind_eq_some_iff.mp H
        obtain ⟨⟨t1437, t1438, t1439, t1440, t1441, t1442, t1443, t1444, t1445, t1446, t1447, t1448, t1449, t1450, t1451, t1452, t1453, t1454, t1455, t1456, t1457, t1458, t1459, t1460, t1461, t1462, t1463, t1464, t1465⟩, A470, H⟩ := H
        (try dsimp only at H)
        have A47 := Aside0.mk A470
        clear A470
        replace H := Option.bind_eq_some_iff.mp H
        obtain ⟨t1468, A480, H⟩ := H
        (try dsimp only at H)
        have A48 := Aside0.mk A480
        clear A480
        by_cases c49 : t1468 = true
        ·subst c49
         rw [if_pos rfl] at H
         have H1 := H
         clear H
         have H := H1
         clear H1
         replace H := Option.bind_eq_some_iff.mp H
         obtain ⟨t1469, A500, H⟩ := H
         (try dsimp only at H)
         have A50 := Aside0.mk A500
         clear A500
         replace H := Option.bind_eq_some_iff.mp H
         obtain ⟨t1472, A510, H⟩ := H
         (try dsimp only at H)
         have A51 := Aside0.mk A510
         clear A510
         by_cases c52 : t1472 = true
         ·subst c52
          rw [if_pos rfl] at H
          have H1 := H
          clear H
          have H := H1
          clear H1
          replace H := Option.bind_eq_some_iff.mp H
          obtain ⟨⟨t1473, t1474⟩, A530, H⟩ := H
          (try dsimp only at H)
          have A53 := Aside0.mk A530
          clear A530
          replace H := Option.bind_eq_some_iff.mp H
          obtain ⟨⟨t1475, t1476⟩, A540, H⟩ := H
          (try dsimp only at H)
          have A54 := Aside0.mk A540
          clear A540
          have HC55 := Aside0.mk H
          clear H
          try go_wp2
          have n0_ := Aside0.mk (Kd.R_drew HO_14.out)
          have n1_ := Aside0.mk (Kd.R_drew HO_17.out)
          have n2_ := Aside0.mk (Kd.R_drew HO_18.out)
          have n3_ := Aside0.mk (Kd.R_drew HO_1429028.out)
          have n4_ := Aside0.mk (blk_drew BK1356.out)
          have n5_ := Aside0.mk (blk_drew BK1428.out)
          have n6_ := Aside0.mk (bw1 HB.out)
          clear HO_14
          clear HO_17
          clear HO_18
          clear HO_1429028
          clear BK1356
          clear BK1428
          clear HB
          have HO_14 := n0_
          have HO_17 := n1_
          have HO_18 := n2_
          have HO_1429028 := n3_
          have BK1356 := n4_
          have BK1428 := n5_
          have HB := n6_
          clear n0_ n1_ n2_ n3_ n4_ n5_ n6_
          refine start_ (n := 5) (S := fun w' => w'.heap[gb1428]? = some (.cells #[.int .i8 t1397, .int .i8 t1398, .int .i8 t1399, .int .i8 t1400, .int .i8 t1401, .int .i8 t1402, .int .i8 t1403, .int .i8 t1404, .int .i8 t1405, .int .i8 t1406, .int .i8 t1407, .int .i8 t1408, .int .i8 t1409, .int .i8 t1410, .int .i8 t1411, .int .i8 t1412, .int .i8 t1413, .int .i8 t1414, .int .i8 t1415, .int .i8 t1416, .int .i8 t1417, .int .i8 t1418, .int .i8 t1419, .int .i8 t1420, .int .i8 t1421, .int .i8 t1422, .int .i8 t1423, .int .i8 t1424, .slice Ao35 t1425.length co35] 32 (0, 0)) ∧ w'.heap[gb1356]? = some (.cells #[.int .i8 F0, .int .i8 F1, .int .i8 F2, .int .i8 F3, .int .i8 F4, .int .i8 F5, .int .i8 F6, .int .i8 F7, .int .i8 F8, .int .i8 F9, .int .i8 F10, .int .i8 F11, .int .i8 F12, .int .i8 F13, .int .i8 F14, .int .i8 F15, .int .i8 F16, .int .i8 F17, .int .i8 F18, .int .i8 F19, .int .i8 F20, .int .i8 F21, .int .i8 F22, .int .i8 F23, .int .i8 F24, .int .i8 F25, .int .i8 F26, .int .i8 F27, .slice A0_28 l0_28.length c0_28] 26 (0, 0))) (ds := []) #[false, false, false, false, false] (by kernel_rfl) rfl rfl ⟨BK1428.out, BK1356.out⟩ (fun hHeld => ?_)
          generalize wc.drew = w56 at HO_14 HO_17 HO_18 HO_1429028 BK1356 BK1428 HB hHeld ⊢
          refine take_ (i := 0) (N := some 76) (v := ?_) (a' := ?_) #[true, false, false, false, false] rfl rfl (by kernel_rfl) (fun _ _ _ h => h) (Or.inl ⟨by rfl, ?_⟩) hHeld ?_ ?_
          rotate_left
          ·rintro w' ⟨s0, s1⟩
           refine exec_load_partx_ 32 (.tmp 16) _ 0 [] [.int .i8 t1397, .int .i8 t1398, .int .i8 t1399, .int .i8 t1400, .int .i8 t1401, .int .i8 t1402, .int .i8 t1403, .int .i8 t1404, .int .i8 t1405, .int .i8 t1406, .int .i8 t1407, .int .i8 t1408, .int .i8 t1409, .int .i8 t1410, .int .i8 t1411, .int .i8 t1412, .int .i8 t1413, .int .i8 t1414, .int .i8 t1415, .int .i8 t1416, .int .i8 t1417, .int .i8 t1418, .int .i8 t1419, .int .i8 t1420, .int .i8 t1421, .int .i8 t1422, .int .i8 t1423, .int .i8 t1424, .slice Ao35 t1425.length co35] [] rfl s0 ?_ ?_ Tryd.underlying32 rfl (by exact (show (Tryd.prog.info? 32).map (·.size) = some 29 by kernel_rfl))
           ·rfl
           ·rfl
          rotate_left
          ·simp only [Act.put, List.setIfInBounds_toArray, List.set_cons_zero, List.set_cons_succ, i64_w, i32_w, u8_w_]
           rfl
          refine take_ (i := 1) (N := some 77) (v := ?_) (a' := ?_) #[true, true, false, false, false] rfl rfl (by kernel_rfl) (fun _ _ _ h => h) (Or.inl ⟨by rfl, ?_⟩) hHeld ?_ ?_
          rotate_left
          ·rintro w' ⟨s0, s1⟩
           refine exec_load_partx_ 26 (.tmp 6) _ 0 [] [.int .i8 F0, .int .i8 F1, .int .i8 F2, .int .i8 F3, .int .i8 F4, .int .i8 F5, .int .i8 F6, .int .i8 F7, .int .i8 F8, .int .i8 F9, .int .i8 F10, .int .i8 F11, .int .i8 F12, .int .i8 F13, .int .i8 F14, .int .i8 F15, .int .i8 F16, .int .i8 F17, .int .i8 F18, .int .i8 F19, .int .i8 F20, .int .i8 F21, .int .i8 F22, .int .i8 F23, .int .i8 F24, .int .i8 F25, .int .i8 F26, .int .i8 F27, .slice A0_28 l0_28.length c0_28] [] rfl s1 ?_ ?_ Tryd.underlying26 rfl (by exact (show (Tryd.prog.info? 26).map (·.size) = some 29 by kernel_rfl))
           ·rfl
           ·rfl
          rotate_left
          ·simp only [Act.put, List.setIfInBounds_toArray, List.set_cons_zero, List.set_cons_succ, i64_w, i32_w, u8_w_]
           rfl
          refine one_ (i := 2) (N := some 78) #[true, true, true, false, false] rfl rfl (by kernel_rfl) (by decide) (fun K hK => ?_)
          refine goes_ Tryd.func20 (by kernel_rfl) rfl #[.agg #[.int .i8 F0, .int .i8 F1, .int .i8 F2, .int .i8 F3, .int .i8 F4, .int .i8 F5, .int .i8 F6, .int .i8 F7, .int .i8 F8, .int .i8 F9, .int .i8 F10, .int .i8 F11, .int .i8 F12, .int .i8 F13, .int .i8 F14, .int .i8 F15, .int .i8 F16, .int .i8 F17, .int .i8 F18, .int .i8 F19, .int .i8 F20, .int .i8 F21, .int .i8 F22, .int .i8 F23, .int .i8 F24, .int .i8 F25, .int .i8 F26, .int .i8 F27, .slice A0_28 l0_28.length c0_28]] (by rfl) rfl rfl (by (try simp only [List.map_toArray, List.map_cons, List.map_nil]); first | done | rfl | (simp only [List.length_drop, List.length_take]; rfl)) ?_
          with_reducible refine (laws_toFace.calls F0 F1 F2 F3 F4 F5 F6 F7 F8 F9 F10 F11 F12 F13 F14 F15 F16 F17 F18 F19 F20 F21 F22 F23 F24 F25 F26 F27 _ _ l0_28 t1437 t1438 t1439 t1440 t1441 t1442 t1443 t1444 t1445 t1446 t1447 t1448 t1449 t1450 t1451 t1452 t1453 t1454 t1455 t1456 t1457 t1458 t1459 t1460 t1461 t1462 t1463 t1464 t1465 _ ?side1 ?side2 A47.out).mono ?_
          (case side1 => repeat (first | exact (Kd.C_below HR0_28.out HB.out) | (with_reducible refine Kd.C_alloc ?_ _) | (with_reducible refine Kd.C_drewN ?_ _) | (with_reducible refine Kd.C_drew ?_)))
          (case side2 => exact HC0_28.out)
          rintro e w57 ⟨v1466, rfl, ho0, hb⟩
          refine ⟨_, rfl, ?_⟩
          have n0_ := Aside0.mk (Kd.R_below (by (with_reducible repeat (first | apply Kd.R_alloc | apply Kd.R_drewN | apply Kd.R_drew)); exact HO_14.out) hb)
          have n1_ := Aside0.mk (Kd.R_below (by (with_reducible repeat (first | apply Kd.R_alloc | apply Kd.R_drewN | apply Kd.R_drew)); exact HO_17.out) hb)
          have n2_ := Aside0.mk (Kd.R_below (by (with_reducible repeat (first | apply Kd.R_alloc | apply Kd.R_drewN | apply Kd.R_drew)); exact HO_18.out) hb)
          have n3_ := Aside0.mk (Kd.R_elder' (by (with_reducible repeat (first | apply Kd.R_alloc | apply Kd.R_drewN | apply Kd.R_drew)); exact HO_1429028.out) (Kd.R_base ho0) hb)
          have n4_ := Aside0.mk (Kd.R_lower (Kd.R_new' ho0 (Kd.R_lt (by (with_reducible repeat (first | apply Kd.R_alloc | apply Kd.R_drewN | apply Kd.R_drew)); exact HO_1429028.out))) (below_size (by repeat (first | (with_reducible first | exact HB.out | apply bwA | apply pwN | apply bw1 | refine below_set ?_ GE1356.out | refine below_set ?_ GE1428.out) | exact HB.out))))
          have n5_ := Aside0.mk (blk_below (g := gb1356) (o := .cells #[.int .i8 F0, .int .i8 F1, .int .i8 F2, .int .i8 F3, .int .i8 F4, .int .i8 F5, .int .i8 F6, .int .i8 F7, .int .i8 F8, .int .i8 F9, .int .i8 F10, .int .i8 F11, .int .i8 F12, .int .i8 F13, .int .i8 F14, .int .i8 F15, .int .i8 F16, .int .i8 F17, .int .i8 F18, .int .i8 F19, .int .i8 F20, .int .i8 F21, .int .i8 F22, .int .i8 F23, .int .i8 F24, .int .i8 F25, .int .i8 F26, .int .i8 F27, .slice A0_28 l0_28.length c0_28] 26 (0, 0)) (by (with_reducible repeat (first | refine blk_drewN ?_ _ | refine blk_drew ?_ | refine blk_alloc ?_ _)); exact BK1356.out) hb)
          have n6_ := Aside0.mk (blk_below (g := gb1428) (o := .cells #[.int .i8 t1397, .int .i8 t1398, .int .i8 t1399, .int .i8 t1400, .int .i8 t1401, .int .i8 t1402, .int .i8 t1403, .int .i8 t1404, .int .i8 t1405, .int .i8 t1406, .int .i8 t1407, .int .i8 t1408, .int .i8 t1409, .int .i8 t1410, .int .i8 t1411, .int .i8 t1412, .int .i8 t1413, .int .i8 t1414, .int .i8 t1415, .int .i8 t1416, .int .i8 t1417, .int .i8 t1418, .int .i8 t1419, .int .i8 t1420, .int .i8 t1421, .int .i8 t1422, .int .i8 t1423, .int .i8 t1424, .slice Ao35 t1425.length co35] 32 (0, 0)) (by (with_reducible repeat (first | refine blk_drewN ?_ _ | refine blk_drew ?_ | refine blk_alloc ?_ _)); exact BK1428.out) hb)
          have n7_ := Aside0.mk (below_step (by repeat (first | (with_reducible first | exact HB.out | apply bwA | apply pwN | apply bw1 | refine below_set ?_ GE1356.out | refine below_set ?_ GE1428.out) | exact HB.out)) hb)
          clear HO_14
          clear HO_17
          clear HO_18
          clear HO_1429028
          clear BK1356
          clear BK1428
          clear HB
          have HO_14 := n0_
          have HO_17 := n1_
          have HO_18 := n2_
          have HO_1429028 := n3_
          have HO1467 := n4_
          have BK1356 := n5_
          have BK1428 := n6_
          have HB := n7_
          clear n0_ n1_ n2_ n3_ n4_ n5_ n6_ n7_
          (try clear hb)
          (try clear hb2)
          (try clear hk)
          (try clear hi)
          (try clear ho0)
          obtain ⟨Ao58, co58, eo58⟩ := Kd.R_slice HO1467.out
          (first | subst eo58 | (injection eo58 with f1_ f2_ f3_; have f4_ := f1_.symm; have f5_ := f3_.symm; clear f1_ f2_ f3_; subst f4_; subst f5_))
          refine hK.out _ _ ⟨BK1428.out, BK1356.out⟩ (fun hHeld => ?_)
          clear hK K
          refine norm_ (a' := ?_) ?_ ?_
          rotate_left
          ·show Act.put _ (some 78) _ = _
           simp only [Act.put, List.setIfInBounds_toArray, List.set_cons_zero, List.set_cons_succ, i64_w, i32_w, u8_w_]
           rfl
          refine one_ (i := 3) (N := some 79) #[true, true, true, true, false] rfl rfl (by kernel_rfl) (by decide) (fun K hK => ?_)
          refine goes_ Tryd.func22 (by kernel_rfl) rfl #[.agg #[.int .i8 t1397, .int .i8 t1398, .int .i8 t1399, .int .i8 t1400, .int .i8 t1401, .int .i8 t1402, .int .i8 t1403, .int .i8 t1404, .int .i8 t1405, .int .i8 t1406, .int .i8 t1407, .int .i8 t1408, .int .i8 t1409, .int .i8 t1410, .int .i8 t1411, .int .i8 t1412, .int .i8 t1413, .int .i8 t1414, .int .i8 t1415, .int .i8 t1416, .int .i8 t1417, .int .i8 t1418, .int .i8 t1419, .int .i8 t1420, .int .i8 t1421, .int .i8 t1422, .int .i8 t1423, .int .i8 t1424, .slice Ao35 t1425.length co35], .agg #[.int .i8 t1437, .int .i8 t1438, .int .i8 t1439, .int .i8 t1440, .int .i8 t1441, .int .i8 t1442, .int .i8 t1443, .int .i8 t1444, .int .i8 t1445, .int .i8 t1446, .int .i8 t1447, .int .i8 t1448, .int .i8 t1449, .int .i8 t1450, .int .i8 t1451, .int .i8 t1452, .int .i8 t1453, .int .i8 t1454, .int .i8 t1455, .int .i8 t1456, .int .i8 t1457, .int .i8 t1458, .int .i8 t1459, .int .i8 t1460, .int .i8 t1461, .int .i8 t1462, .int .i8 t1463, .int .i8 t1464, .slice Ao58 t1465.length co58]] (by rfl) rfl rfl (by (try simp only [List.map_toArray, List.map_cons, List.map_nil]); first | done | rfl | (simp only [List.length_drop, List.length_take]; rfl)) ?_
          with_reducible refine (laws_eqFace.calls t1397 t1398 t1399 t1400 t1401 t1402 t1403 t1404 t1405 t1406 t1407 t1408 t1409 t1410 t1411 t1412 t1413 t1414 t1415 t1416 t1417 t1418 t1419 t1420 t1421 t1422 t1423 t1424 _ _ t1425 t1437 t1438 t1439 t1440 t1441 t1442 t1443 t1444 t1445 t1446 t1447 t1448 t1449 t1450 t1451 t1452 t1453 t1454 t1455 t1456 t1457 t1458 t1459 t1460 t1461 t1462 t1463 t1464 _ _ t1465 true _ ?side1 ?side2 ?side3 ?side4 A48.out).mono ?_
          (case side1 => repeat (first | exact (Kd.R_reads' HO_1429028.out).2.2 | (with_reducible refine Kd.C_alloc ?_ _) | (with_reducible refine Kd.C_drewN ?_ _) | (with_reducible refine Kd.C_drew ?_)))
          (case side2 => exact (Kd.R_reads' HO_1429028.out).2.1)
          (case side3 => repeat (first | exact (Kd.R_reads' HO1467.out).2.2 | (with_reducible refine Kd.C_alloc ?_ _) | (with_reducible refine Kd.C_drewN ?_ _) | (with_reducible refine Kd.C_drew ?_)))
          (case side4 => exact (Kd.R_reads' HO1467.out).2.1)
          rintro e w59 ⟨rfl, hb⟩
          refine ⟨_, rfl, ?_⟩
          have n0_ := Aside0.mk (Kd.R_below (by (with_reducible repeat (first | apply Kd.R_alloc | apply Kd.R_drewN | apply Kd.R_drew)); exact HO_14.out) hb)
          have n1_ := Aside0.mk (Kd.R_below (by (with_reducible repeat (first | apply Kd.R_alloc | apply Kd.R_drewN | apply Kd.R_drew)); exact HO_17.out) hb)
          have n2_ := Aside0.mk (Kd.R_below (by (with_reducible repeat (first | apply Kd.R_alloc | apply Kd.R_drewN | apply Kd.R_drew)); exact HO_18.out) hb)
          have n3_ := Aside0.mk (Kd.R_below (by (with_reducible repeat (first | apply Kd.R_alloc | apply Kd.R_drewN | apply Kd.R_drew)); exact HO_1429028.out) hb)
          have n4_ := Aside0.mk (Kd.R_below (by (with_reducible repeat (first | apply Kd.R_alloc | apply Kd.R_drewN | apply Kd.R_drew)); exact HO1467.out) hb)
          have n5_ := Aside0.mk (blk_below (g := gb1356) (o := .cells #[.int .i8 F0, .int .i8 F1, .int .i8 F2, .int .i8 F3, .int .i8 F4, .int .i8 F5, .int .i8 F6, .int .i8 F7, .int .i8 F8, .int .i8 F9, .int .i8 F10, .int .i8 F11, .int .i8 F12, .int .i8 F13, .int .i8 F14, .int .i8 F15, .int .i8 F16, .int .i8 F17, .int .i8 F18, .int .i8 F19, .int .i8 F20, .int .i8 F21, .int .i8 F22, .int .i8 F23, .int .i8 F24, .int .i8 F25, .int .i8 F26, .int .i8 F27, .slice A0_28 l0_28.length c0_28] 26 (0, 0)) (by (with_reducible repeat (first | refine blk_drewN ?_ _ | refine blk_drew ?_ | refine blk_alloc ?_ _)); exact BK1356.out) hb)
          have n6_ := Aside0.mk (blk_below (g := gb1428) (o := .cells #[.int .i8 t1397, .int .i8 t1398, .int .i8 t1399, .int .i8 t1400, .int .i8 t1401, .int .i8 t1402, .int .i8 t1403, .int .i8 t1404, .int .i8 t1405, .int .i8 t1406, .int .i8 t1407, .int .i8 t1408, .int .i8 t1409, .int .i8 t1410, .int .i8 t1411, .int .i8 t1412, .int .i8 t1413, .int .i8 t1414, .int .i8 t1415, .int .i8 t1416, .int .i8 t1417, .int .i8 t1418, .int .i8 t1419, .int .i8 t1420, .int .i8 t1421, .int .i8 t1422, .int .i8 t1423, .int .i8 t1424, .slice Ao35 t1425.length co35] 32 (0, 0)) (by (with_reducible repeat (first | refine blk_drewN ?_ _ | refine blk_drew ?_ | refine blk_alloc ?_ _)); exact BK1428.out) hb)
          have n7_ := Aside0.mk (below_step (by repeat (first | (with_reducible first | exact HB.out | apply bwA | apply pwN | apply bw1 | refine below_set ?_ GE1356.out | refine below_set ?_ GE1428.out) | exact HB.out)) hb)
          clear HO_14
          clear HO_17
          clear HO_18
          clear HO_1429028
          clear HO1467
          clear BK1356
          clear BK1428
          clear HB
          have HO_14 := n0_
          have HO_17 := n1_
          have HO_18 := n2_
          have HO_1429028 := n3_
          have HO1467 := n4_
          have BK1356 := n5_
          have BK1428 := n6_
          have HB := n7_
          clear n0_ n1_ n2_ n3_ n4_ n5_ n6_ n7_
          (try clear hb)
          (try clear hb2)
          (try clear hk)
          (try clear hi)
          refine hK.out _ _ ⟨BK1428.out, BK1356.out⟩ (fun hHeld => ?_)
          clear hK K
          refine norm_ (a' := ?_) ?_ ?_
          rotate_left
          ·show Act.put _ (some 79) _ = _
           simp only [Act.put, List.setIfInBounds_toArray, List.set_cons_zero, List.set_cons_succ, i64_w, i32_w, u8_w_]
           rfl
          refine pure_ (i := 4) (N := some 80) (v := ?_) (a' := ?_) #[true, true, true, true, true] rfl rfl (by kernel_rfl) (fun _ _ _ h => h) (Or.inl ⟨by rfl, ?_⟩) ?_ ?_
          rotate_left
          ·intro w'
           go_simp
           with_reducible rfl
          rotate_left
          ·simp only [Act.put, List.setIfInBounds_toArray, List.set_cons_zero, List.set_cons_succ, i64_w, i32_w, u8_w_]
           rfl
          refine done_ (by kernel_rfl) ?_
          go_upto_region 25 with (first | ((with_reducible refine gate_callee (f := 41) rfl ?_); refine goesL_ (some 83) rfl rfl Tryd.func41 (by kernel_rfl) rfl #[.slice A3 l3.length c3] rfl (by (try simp only [List.map_toArray, List.map_cons, List.map_nil]); first | done | rfl | (simp only [List.length_drop, List.length_take]; rfl)) ?_; (with_reducible refine (laws_toStringS.calls kj24 _ _ l3 t1469 _ ?side1 ?side2 A50.out).mono ?_); (case side1 => repeat (first | exact (Kd.C_below HR3.out HB.out) | (with_reducible refine Kd.C_alloc ?_ _) | (with_reducible refine Kd.C_drewN ?_ _) | (with_reducible refine Kd.C_drew ?_))); (case side2 => exact HC3.out); rintro e w60 ⟨v1470, rfl, ho0, hb⟩; refine ⟨_, rfl, ?_⟩; have n0_ := Aside0.mk (Kd.R_below (by (with_reducible repeat (first | apply Kd.R_alloc | apply Kd.R_drewN | apply Kd.R_drew)); exact HO_14.out) hb); have n1_ := Aside0.mk (Kd.R_elder' (by (with_reducible repeat (first | apply Kd.R_alloc | apply Kd.R_drewN | apply Kd.R_drew)); exact HO_17.out) (Kd.R_base ho0) hb); have n2_ := Aside0.mk (Kd.R_below (by (with_reducible repeat (first | apply Kd.R_alloc | apply Kd.R_drewN | apply Kd.R_drew)); exact HO_18.out) hb); have n3_ := Aside0.mk (Kd.R_below (by (with_reducible repeat (first | apply Kd.R_alloc | apply Kd.R_drewN | apply Kd.R_drew)); exact HO_1429028.out) hb); have n4_ := Aside0.mk (Kd.R_below (by (with_reducible repeat (first | apply Kd.R_alloc | apply Kd.R_drewN | apply Kd.R_drew)); exact HO1467.out) hb); have n5_ := Aside0.mk (Kd.R_lower (Kd.R_new' ho0 (Kd.R_lt (by (with_reducible repeat (first | apply Kd.R_alloc | apply Kd.R_drewN | apply Kd.R_drew)); exact HO_17.out))) (below_size (by repeat (first | (with_reducible first | exact HB.out | apply bwA | apply pwN | apply bw1 | refine below_set ?_ GE1356.out | refine below_set ?_ GE1428.out) | exact HB.out)))); have n6_ := Aside0.mk (blk_below (g := gb1356) (o := .cells #[.int .i8 F0, .int .i8 F1, .int .i8 F2, .int .i8 F3, .int .i8 F4, .int .i8 F5, .int .i8 F6, .int .i8 F7, .int .i8 F8, .int .i8 F9, .int .i8 F10, .int .i8 F11, .int .i8 F12, .int .i8 F13, .int .i8 F14, .int .i8 F15, .int .i8 F16, .int .i8 F17, .int .i8 F18, .int .i8 F19, .int .i8 F20, .int .i8 F21, .int .i8 F22, .int .i8 F23, .int .i8 F24, .int .i8 F25, .int .i8 F26, .int .i8 F27, .slice A0_28 l0_28.length c0_28] 26 (0, 0)) (by (with_reducible repeat (first | refine blk_drewN ?_ _ | refine blk_drew ?_ | refine blk_alloc ?_ _)); exact BK1356.out) hb); have n7_ := Aside0.mk (blk_below (g := gb1428) (o := .cells #[.int .i8 t1397, .int .i8 t1398, .int .i8 t1399, .int .i8 t1400, .int .i8 t1401, .int .i8 t1402, .int .i8 t1403, .int .i8 t1404, .int .i8 t1405, .int .i8 t1406, .int .i8 t1407, .int .i8 t1408, .int .i8 t1409, .int .i8 t1410, .int .i8 t1411, .int .i8 t1412, .int .i8 t1413, .int .i8 t1414, .int .i8 t1415, .int .i8 t1416, .int .i8 t1417, .int .i8 t1418, .int .i8 t1419, .int .i8 t1420, .int .i8 t1421, .int .i8 t1422, .int .i8 t1423, .int .i8 t1424, .slice Ao35 t1425.length co35] 32 (0, 0)) (by (with_reducible repeat (first | refine blk_drewN ?_ _ | refine blk_drew ?_ | refine blk_alloc ?_ _)); exact BK1428.out) hb); have n8_ := Aside0.mk (below_step (by repeat (first | (with_reducible first | exact HB.out | apply bwA | apply pwN | apply bw1 | refine below_set ?_ GE1356.out | refine below_set ?_ GE1428.out) | exact HB.out)) hb); clear HO_14; clear HO_17; clear HO_18; clear HO_1429028; clear HO1467; clear BK1356; clear BK1428; clear HB; have HO_14 := n0_; have HO_17 := n1_; have HO_18 := n2_; have HO_1429028 := n3_; have HO1467 := n4_; have HO1471 := n5_; have BK1356 := n6_; have BK1428 := n7_; have HB := n8_; clear n0_ n1_ n2_ n3_ n4_ n5_ n6_ n7_ n8_; (try clear hb); (try clear hb2); (try clear hk); (try clear hi); (try clear ho0); obtain ⟨Ao61, co61, eo61⟩ := Kd.R_slice HO1471.out; subst eo61) | ((with_reducible refine gate_callee (f := 43) rfl ?_); refine goesL_ (some 84) rfl rfl Tryd.func43 (by kernel_rfl) rfl #[.slice Ao38 t1429.length co38, .slice Ao61 t1469.length co61] rfl (by (try simp only [List.map_toArray, List.map_cons, List.map_nil]); first | done | rfl | (simp only [List.length_drop, List.length_take]; rfl)) ?_; (with_reducible refine (laws_eqStringS.calls kj24 _ _ t1429 _ _ t1469 true _ ?side1 ?side2 ?side3 ?side4 A51.out).mono ?_); (case side1 => repeat (first | exact (Kd.R_reads' HO_17.out).2.2 | (with_reducible refine Kd.C_alloc ?_ _) | (with_reducible refine Kd.C_drewN ?_ _) | (with_reducible refine Kd.C_drew ?_))); (case side2 => exact (Kd.R_reads' HO_17.out).2.1); (case side3 => repeat (first | exact (Kd.R_reads' HO1471.out).2.2 | (with_reducible refine Kd.C_alloc ?_ _) | (with_reducible refine Kd.C_drewN ?_ _) | (with_reducible refine Kd.C_drew ?_))); (case side4 => exact (Kd.R_reads' HO1471.out).2.1); rintro e w' ⟨rfl, ⟨nd, rfl⟩⟩; refine ⟨_, rfl, ?_⟩) | ((with_reducible refine gate_dst (N := 86) rfl ?_); refine wpList_load_mid rfl 32 (.tmp 16) rfl gb1428 0 rfl [.int .i8 t1397, .int .i8 t1398, .int .i8 t1399, .int .i8 t1400, .int .i8 t1401, .int .i8 t1402, .int .i8 t1403, .int .i8 t1404, .int .i8 t1405, .int .i8 t1406, .int .i8 t1407, .int .i8 t1408, .int .i8 t1409, .int .i8 t1410, .int .i8 t1411, .int .i8 t1412, .int .i8 t1413, .int .i8 t1414, .int .i8 t1415, .int .i8 t1416, .int .i8 t1417, .int .i8 t1418, .int .i8 t1419, .int .i8 t1420, .int .i8 t1421, .int .i8 t1422, .int .i8 t1423, .int .i8 t1424, .slice Ao35 t1425.length co35] _ (range_partx_ [] [.int .i8 t1397, .int .i8 t1398, .int .i8 t1399, .int .i8 t1400, .int .i8 t1401, .int .i8 t1402, .int .i8 t1403, .int .i8 t1404, .int .i8 t1405, .int .i8 t1406, .int .i8 t1407, .int .i8 t1408, .int .i8 t1409, .int .i8 t1410, .int .i8 t1411, .int .i8 t1412, .int .i8 t1413, .int .i8 t1414, .int .i8 t1415, .int .i8 t1416, .int .i8 t1417, .int .i8 t1418, .int .i8 t1419, .int .i8 t1420, .int .i8 t1421, .int .i8 t1422, .int .i8 t1423, .int .i8 t1424, .slice Ao35 t1425.length co35] [] 0 rfl (by (with_reducible repeat (first | refine blk_drewN ?_ _ | refine blk_drew ?_ | refine blk_alloc ?_ _)); exact BK1428.out)) Tryd.underlying32 rfl (by exact (show (Tryd.prog.info? 32).map (·.size) = some 29 by kernel_rfl)) ?_) | ((with_reducible refine gate_callee (f := 30) rfl ?_); refine goesL_ (some 88) rfl rfl Tryd.func30 (by kernel_rfl) rfl #[.agg #[.int .i8 t1397, .int .i8 t1398, .int .i8 t1399, .int .i8 t1400, .int .i8 t1401, .int .i8 t1402, .int .i8 t1403, .int .i8 t1404, .int .i8 t1405, .int .i8 t1406, .int .i8 t1407, .int .i8 t1408, .int .i8 t1409, .int .i8 t1410, .int .i8 t1411, .int .i8 t1412, .int .i8 t1413, .int .i8 t1414, .int .i8 t1415, .int .i8 t1416, .int .i8 t1417, .int .i8 t1418, .int .i8 t1419, .int .i8 t1420, .int .i8 t1421, .int .i8 t1422, .int .i8 t1423, .int .i8 t1424, .slice Ao35 t1425.length co35], .int .i64 1] rfl (by (try simp only [List.map_toArray, List.map_cons, List.map_nil]); first | done | rfl | (simp only [List.length_drop, List.length_take]; rfl)) ?_; (with_reducible refine (laws_markFace.calls kj24 t1397 t1398 t1399 t1400 t1401 t1402 t1403 t1404 t1405 t1406 t1407 t1408 t1409 t1410 t1411 t1412 t1413 t1414 t1415 t1416 t1417 t1418 t1419 t1420 t1421 t1422 t1423 t1424 (fun k_ => some k_ = (.slice Ao35 t1425.length co35 : Value).ownBlock) (.slice Ao35 t1425.length co35) t1425 1 t1473 t1474 w _ ?side1 ?side2 A53.out).mono ?_); (case side1 => repeat (first | (with_reducible first | exact HB.out | apply bwA | apply pwN | apply bw1 | refine below_set ?_ GE1356.out | refine below_set ?_ GE1428.out) | exact HB.out)); (case side2 => exact Kd.R_tight rfl HO_1429028.out); rintro e w62 ⟨rfl, hy0, hb, hkp⟩; refine ⟨_, rfl, ?_⟩; have n0_ := Aside0.mk (Kd.R_mono (ok' := fun k_ => some k_ ≠ (v1433 : Value).ownBlock) (Kd.R_keptB ((Kd.R_apart' HO_14.out (Kd.R_typed HO_1429028.out) (by decide))) hkp (fun k_ hk_ hs_ => (hk_.2) hs_)) (fun k_ hk_ => hk_.1.1)); have n1_ := Aside0.mk (Kd.R_mono (ok' := fun k_ => some k_ ≠ (.slice Ao61 t1469.length co61 : Value).ownBlock) (Kd.R_keptB ((Kd.R_apart' HO_17.out (Kd.R_typed HO_1429028.out) (by decide))) hkp (fun k_ hk_ hs_ => (hk_.2) hs_)) (fun k_ hk_ => hk_.1.1.2)); have n2_ := Aside0.mk (Kd.R_mono (ok' := fun k_ => some k_ ≠ (v1394 : Value).ownBlock) (Kd.R_keptB ((Kd.R_apart' HO_18.out (Kd.R_typed HO_1429028.out) (by decide))) hkp (fun k_ hk_ hs_ => (hk_.2) hs_)) (fun k_ hk_ => hk_.1.1)); have n3_ := Aside0.mk (Kd.R_reok rfl hy0 (fun k_ e_ => HO_1429028.out.1 k_ e_)); have n4_ := Aside0.mk (blk_kept (by (with_reducible repeat (first | refine blk_drewN ?_ _ | refine blk_drew ?_ | refine blk_alloc ?_ _)); exact BK1356.out) hkp (fun hs_ => (fun e_ => (Kd.R_ne HO_1429028.out BK1356.out (by decide)) e_) hs_)); have n5_ := Aside0.mk (blk_kept (by (with_reducible repeat (first | refine blk_drewN ?_ _ | refine blk_drew ?_ | refine blk_alloc ?_ _)); exact BK1428.out) hkp (fun hs_ => (fun e_ => (Kd.R_ne HO_1429028.out BK1428.out (by decide)) e_) hs_)); have n6_ := Aside0.mk (Kd.R_mono (ok' := fun k_ => some k_ ≠ (.slice Ao35 t1425.length co35 : Value).ownBlock) (Kd.R_keptB (HO1467.out) hkp (fun k_ hk_ hs_ => (hk_.2) hs_)) (fun k_ hk_ => hk_.1.2)); have n7_ := Aside0.mk (Kd.R_mono (ok' := fun k_ => some k_ ≠ (.slice Ao38 t1429.length co38 : Value).ownBlock) (Kd.R_keptB ((Kd.R_apart' HO1471.out (Kd.R_typed HO_1429028.out) (by decide))) hkp (fun k_ hk_ hs_ => (hk_.2) hs_)) (fun k_ hk_ => hk_.1.1.2)); have n8_ := Aside0.mk (hb); clear HO_14; clear HO_17; clear HO_18; clear HO_1429028; clear BK1356; clear BK1428; clear HO1467; clear HO1471; clear HB; have HO_14 := n0_; have HO_17 := n1_; have HO_18 := n2_; have HO_1429028 := n3_; have BK1356 := n4_; have BK1428 := n5_; have HO1467 := n6_; have HO1471 := n7_; have HB := n8_; clear n0_ n1_ n2_ n3_ n4_ n5_ n6_ n7_ n8_; (try clear hb); (try clear hkp); (try clear hy0)) | ((with_reducible refine gate_callee (f := 46) rfl ?_); refine goesL_ (some 91) rfl rfl Tryd.func46 (by kernel_rfl) rfl #[.slice Ao38 t1429.length co38, .int .i64 t1473] rfl (by (try simp only [List.map_toArray, List.map_cons, List.map_nil]); first | done | rfl | (simp only [List.length_drop, List.length_take]; rfl)) ?_; (with_reducible refine (laws_markStringS.calls kj24 (fun k_ => some k_ = (.slice Ao38 t1429.length co38 : Value).ownBlock) (.slice Ao38 t1429.length co38) t1429 t1473 t1475 t1476 w _ ?side1 ?side2 A54.out).mono ?_); (case side1 => repeat (first | (with_reducible first | exact HB.out | apply bwA | apply pwN | apply bw1 | refine below_set ?_ GE1356.out | refine below_set ?_ GE1428.out) | exact HB.out)); (case side2 => exact Kd.R_tight rfl HO_17.out); rintro e w63 ⟨rfl, hy0, hb, hkp⟩; refine ⟨_, rfl, ?_⟩; have n0_ := Aside0.mk (Kd.R_mono (ok' := fun k_ => some k_ ≠ (v1433 : Value).ownBlock) (Kd.R_keptB ((Kd.R_apart' HO_14.out (Kd.R_typed HO_17.out) (by decide))) hkp (fun k_ hk_ hs_ => (hk_.2) hs_)) (fun k_ hk_ => hk_.1.1)); have n1_ := Aside0.mk (Kd.R_reok rfl hy0 (fun k_ e_ => HO_17.out.1 k_ e_)); have n2_ := Aside0.mk (Kd.R_mono (ok' := fun k_ => some k_ ≠ (v1394 : Value).ownBlock) (Kd.R_keptB ((Kd.R_apart' HO_18.out (Kd.R_typed HO_17.out) (by decide))) hkp (fun k_ hk_ hs_ => (hk_.2) hs_)) (fun k_ hk_ => hk_.1.1)); have n3_ := Aside0.mk (Kd.R_mono (ok' := fun k_ => some k_ ≠ (.slice Ao58 t1465.length co58 : Value).ownBlock) (Kd.R_keptB ((Kd.R_apart' HO_1429028.out (Kd.R_typed HO_17.out) (by decide))) hkp (fun k_ hk_ hs_ => (hk_.2) hs_)) (fun k_ hk_ => hk_.1.1.2)); have n4_ := Aside0.mk (blk_kept (by (with_reducible repeat (first | refine blk_drewN ?_ _ | refine blk_drew ?_ | refine blk_alloc ?_ _)); exact BK1356.out) hkp (fun hs_ => (fun e_ => (Kd.R_ne HO_17.out BK1356.out (by decide)) e_) hs_)); have n5_ := Aside0.mk (blk_kept (by (with_reducible repeat (first | refine blk_drewN ?_ _ | refine blk_drew ?_ | refine blk_alloc ?_ _)); exact BK1428.out) hkp (fun hs_ => (fun e_ => (Kd.R_ne HO_17.out BK1428.out (by decide)) e_) hs_)); have n6_ := Aside0.mk (Kd.R_mono (ok' := fun k_ => some k_ ≠ (.slice Ao35 t1425.length co35 : Value).ownBlock) (Kd.R_keptB ((Kd.R_apart' HO1467.out (Kd.R_typed HO_17.out) (by decide))) hkp (fun k_ hk_ hs_ => (hk_.2) hs_)) (fun k_ hk_ => hk_.1.1)); have n7_ := Aside0.mk (Kd.R_mono (ok' := fun k_ => some k_ ≠ (.slice Ao38 t1429.length co38 : Value).ownBlock) (Kd.R_keptB (HO1471.out) hkp (fun k_ hk_ hs_ => (hk_) hs_)) (fun k_ hk_ => hk_.1)); have n8_ := Aside0.mk (hb); clear HO_14; clear HO_17; clear HO_18; clear HO_1429028; clear BK1356; clear BK1428; clear HO1467; clear HO1471; clear HB; have HO_14 := n0_; have HO_17 := n1_; have HO_18 := n2_; have HO_1429028 := n3_; have BK1356 := n4_; have BK1428 := n5_; have HO1467 := n6_; have HO1471 := n7_; have HB := n8_; clear n0_ n1_ n2_ n3_ n4_ n5_ n6_ n7_ n8_; (try clear hb); (try clear hkp); (try clear hy0)))
          (try simp only [Act.put, List.setIfInBounds_toArray, List.set_cons_zero, List.set_cons_succ])
          go_cut [104] (fun v104 wc => ∃ (kq : Nat) (x104_54 : Bool), v104 = .bool x104_54 ∧ Aside0 (laws_FnExactFillWord.j1 kq a1 a2 l3 a4 a5 t1393 t1396 t1432 x104_54 F0 F1 F2 F3 F4 F5 F6 F7 F8 F9 F10 F11 F12 F13 F14 F15 F16 F17 F18 F19 F20 F21 F22 F23 F24 F25 F26 F27 l0_28 = some r) ∧ Aside0 (kq ≤ kj24) ∧ Aside0 (Kd.R (Kd.int .i64) 2 wc w.heap.size (fun k_ => some k_ ≠ (v1433 : Value).ownBlock) v1394 t1393) ∧ Aside0 (Kd.R (Kd.int .i64) 2 wc w.heap.size (fun k_ => some k_ ≠ (v1394 : Value).ownBlock) v1433 t1432) ∧ Aside0 (Kd.R k137 137 wc w.heap.size (fun _ => True) (.slice Ao35 t1425.length co35) t1474) ∧ Aside0 (wc.heap[gb1356]? = some (.cells #[.int .i8 F0, .int .i8 F1, .int .i8 F2, .int .i8 F3, .int .i8 F4, .int .i8 F5, .int .i8 F6, .int .i8 F7, .int .i8 F8, .int .i8 F9, .int .i8 F10, .int .i8 F11, .int .i8 F12, .int .i8 F13, .int .i8 F14, .int .i8 F15, .int .i8 F16, .int .i8 F17, .int .i8 F18, .int .i8 F19, .int .i8 F20, .int .i8 F21, .int .i8 F22, .int .i8 F23, .int .i8 F24, .int .i8 F25, .int .i8 F26, .int .i8 F27, (.slice A0_28 l0_28.length c0_28)] 26 (0, 0))) ∧ Aside0 (wc.heap[gb1428]? = some (.cells #[.int .i8 t1397, .int .i8 t1398, .int .i8 t1399, .int .i8 t1400, .int .i8 t1401, .int .i8 t1402, .int .i8 t1403, .int .i8 t1404, .int .i8 t1405, .int .i8 t1406, .int .i8 t1407, .int .i8 t1408, .int .i8 t1409, .int .i8 t1410, .int .i8 t1411, .int .i8 t1412, .int .i8 t1413, .int .i8 t1414, .int .i8 t1415, .int .i8 t1416, .int .i8 t1417, .int .i8 t1418, .int .i8 t1419, .int .i8 t1420, .int .i8 t1421, .int .i8 t1422, .int .i8 t1423, .int .i8 t1424, (.slice Ao35 t1425.length co35)] 32 (0, 0))) ∧ Aside0 (Below w.heap.size w wc))
          case first =>
           have H := HC55.out
           clear HC55
           by_cases c64 : t1475 < 0
           ·rw [if_pos c64] at H
            have c64b0 : decide (t1475 < 0) = true := decide_eq_true c64
            clear c64
            (first | rw [c64b0] | (simp only [i64_w, i32_w]; rw [c64b0]) | skip)
            have H' := Aside0.mk H
            clear H
            go_wp2
            go_meet
            case rel => exact ⟨_, (true), (by first | rfl | (simp; done) | (simp [*]; done)), H', ⟨by have := HJ24.out; first | omega | exact Nat.le_refl _⟩, ⟨by (with_reducible repeat (first | apply Kd.R_alloc | apply Kd.R_drewN | apply Kd.R_drew)); exact HO_14.out⟩, ⟨by (with_reducible repeat (first | apply Kd.R_alloc | apply Kd.R_drewN | apply Kd.R_drew)); exact HO_18.out⟩, ⟨by (with_reducible repeat (first | apply Kd.R_alloc | apply Kd.R_drewN | apply Kd.R_drew)); exact Kd.R_mono HO_1429028.out (fun _ hk => trivial)⟩, ⟨by (with_reducible repeat (first | refine blk_drewN ?_ _ | refine blk_drew ?_ | refine blk_alloc ?_ _)); exact BK1356.out⟩, ⟨by (with_reducible repeat (first | refine blk_drewN ?_ _ | refine blk_drew ?_ | refine blk_alloc ?_ _)); exact BK1428.out⟩, ⟨by repeat (first | (with_reducible first | exact HB.out | apply bwA | apply pwN | apply bw1 | refine below_set ?_ GE1356.out | refine below_set ?_ GE1428.out) | exact HB.out)⟩⟩
           ·rw [if_neg c64] at H
            have c64b0 : decide (t1475 < 0) = false := decide_eq_false c64
            clear c64
            (first | rw [c64b0] | (simp only [i64_w, i32_w]; rw [c64b0]) | skip)
            replace H := Option.bind_eq_some_iff.mp H
            obtain ⟨t1477, A650, H⟩ := H
            (try dsimp only at H)
            have A65 := Aside0.mk A650
            clear A650
            by_cases c66 : t1477 = true
            ·subst c66
             rw [if_pos rfl] at H
             have H1 := H
             clear H
             have H := H1
             clear H1
             have H' := Aside0.mk H
             clear H
             obtain ⟨Ao67, co67, eo67⟩ := Kd.R_slice HO_18.out
             subst eo67
             obtain ⟨Ao68, co68, eo68⟩ := Kd.R_slice HO_14.out
             subst eo68
             go_wp2_with (first | (go_at_call 29; (with_reducible refine (laws_eqInt64S.calls kj24 _ _ t1432 _ _ t1393 true _ ?side1 ?side2 ?side3 ?side4 A65.out).mono ?_); (case side1 => repeat (first | exact (Kd.R_reads' HO_18.out).2.2 | (with_reducible refine Kd.C_alloc ?_ _) | (with_reducible refine Kd.C_drewN ?_ _) | (with_reducible refine Kd.C_drew ?_))); (case side2 => exact (Kd.R_reads' HO_18.out).2.1); (case side3 => repeat (first | exact (Kd.R_reads' HO_14.out).2.2 | (with_reducible refine Kd.C_alloc ?_ _) | (with_reducible refine Kd.C_drewN ?_ _) | (with_reducible refine Kd.C_drew ?_))); (case side4 => exact (Kd.R_reads' HO_14.out).2.1); rintro e w' ⟨rfl, ⟨nd, rfl⟩⟩))
             go_meet
             case rel => exact ⟨_, ((t1435 != t1396)), (by first | rfl | (simp; done) | (simp [*]; done)), H', ⟨by have := HJ24.out; first | omega | exact Nat.le_refl _⟩, ⟨by (with_reducible repeat (first | apply Kd.R_alloc | apply Kd.R_drewN | apply Kd.R_drew)); exact HO_14.out⟩, ⟨by (with_reducible repeat (first | apply Kd.R_alloc | apply Kd.R_drewN | apply Kd.R_drew)); exact HO_18.out⟩, ⟨by (with_reducible repeat (first | apply Kd.R_alloc | apply Kd.R_drewN | apply Kd.R_drew)); exact Kd.R_mono HO_1429028.out (fun _ hk => trivial)⟩, ⟨by (with_reducible repeat (first | refine blk_drewN ?_ _ | refine blk_drew ?_ | refine blk_alloc ?_ _)); exact BK1356.out⟩, ⟨by (with_reducible repeat (first | refine blk_drewN ?_ _ | refine blk_drew ?_ | refine blk_alloc ?_ _)); exact BK1428.out⟩, ⟨by repeat (first | (with_reducible first | exact HB.out | apply bwA | apply pwN | apply bw1 | refine below_set ?_ GE1356.out | refine below_set ?_ GE1428.out) | exact HB.out)⟩⟩
            ·replace c66 := Bool.eq_false_iff.mpr c66
             subst c66
             rw [if_neg (show ¬ (false = true) by decide)] at H
             have H1 := H
             clear H
             have H := H1
             clear H1
             have H' := Aside0.mk H
             clear H
             obtain ⟨Ao69, co69, eo69⟩ := Kd.R_slice HO_18.out
             subst eo69
             obtain ⟨Ao70, co70, eo70⟩ := Kd.R_slice HO_14.out
             subst eo70
             go_wp2_with (first | (go_at_call 29; (with_reducible refine (laws_eqInt64S.calls kj24 _ _ t1432 _ _ t1393 false _ ?side1 ?side2 ?side3 ?side4 A65.out).mono ?_); (case side1 => repeat (first | exact (Kd.R_reads' HO_18.out).2.2 | (with_reducible refine Kd.C_alloc ?_ _) | (with_reducible refine Kd.C_drewN ?_ _) | (with_reducible refine Kd.C_drew ?_))); (case side2 => exact (Kd.R_reads' HO_18.out).2.1); (case side3 => repeat (first | exact (Kd.R_reads' HO_14.out).2.2 | (with_reducible refine Kd.C_alloc ?_ _) | (with_reducible refine Kd.C_drewN ?_ _) | (with_reducible refine Kd.C_drew ?_))); (case side4 => exact (Kd.R_reads' HO_14.out).2.1); rintro e w' ⟨rfl, ⟨nd, rfl⟩⟩))
             go_meet
             case rel => exact ⟨_, (true), (by first | rfl | (simp; done) | (simp [*]; done)), H', ⟨by have := HJ24.out; first | omega | exact Nat.le_refl _⟩, ⟨by (with_reducible repeat (first | apply Kd.R_alloc | apply Kd.R_drewN | apply Kd.R_drew)); exact HO_14.out⟩, ⟨by (with_reducible repeat (first | apply Kd.R_alloc | apply Kd.R_drewN | apply Kd.R_drew)); exact HO_18.out⟩, ⟨by (with_reducible repeat (first | apply Kd.R_alloc | apply Kd.R_drewN | apply Kd.R_drew)); exact Kd.R_mono HO_1429028.out (fun _ hk => trivial)⟩, ⟨by (with_reducible repeat (first | refine blk_drewN ?_ _ | refine blk_drew ?_ | refine blk_alloc ?_ _)); exact BK1356.out⟩, ⟨by (with_reducible repeat (first | refine blk_drewN ?_ _ | refine blk_drew ?_ | refine blk_alloc ?_ _)); exact BK1428.out⟩, ⟨by repeat (first | (with_reducible first | exact HB.out | apply bwA | apply pwN | apply bw1 | refine below_set ?_ GE1356.out | refine below_set ?_ GE1428.out) | exact HB.out)⟩⟩
          case rest =>
           clear HC55
           try clear c1
           try clear c2
           try clear p2
           try clear c3
           try clear c4
           try clear c5
           try clear c6
           try clear c7
           try clear c7b0
           try clear c7b1
           try clear c9
           try clear c9b0
           try clear c9b1
           try clear c11
           try clear c12
           try clear c12b0
           try clear c16
           try clear c16b0
           try clear c18
           try clear c20
           try clear c22
           try clear c29
           try clear c30
           try clear c39
           try clear c41
           try clear c43
           try clear c44
           try clear c45
           try clear c46
           try clear c49
           try clear c52
           try clear c64
           try clear c64b0
           try clear c66
           try clear p2
           obtain ⟨kq, x104_54, rfl, HA, HJ54, HO_14, HO_18, HO_1429028, BK1356, BK1428, HB⟩ := hcut
           have hl1429028_54 := (Kd.R_reads' HO_1429028.out).1
           rw [hl1429028_54] at HO_1429028
           (try simp only [hl1429028_54])
           (try simp only [hl1429028_54] at BK1356)
           (try simp only [hl1429028_54] at BK1428)
           (try simp only [hl1429028_54] at HO_14)
           (try simp only [hl1429028_54] at HO_18)
           cases kq with
           | zero => exact absurd HA.out (by simp [laws_FnExactFillWord.j1])
           | succ kj54 =>
            have H := HA.out
            clear HA
            simp only [laws_FnExactFillWord.j1] at H
            by_cases c71 : x104_54 = true
            ·subst c71
             rw [if_pos rfl] at H
             have H1 := H
             clear H
             have H := H1
             clear H1
             obtain rfl := Option.some.inj H
             go_wp2
             go_ret
             exact ⟨by first | rfl | (simp [errW_none, errW_some] <;> rfl) | (simp [*, errW_none, errW_some] <;> rfl), by repeat (first | (with_reducible first | exact HB.out | apply bwA | apply pwN | apply bw1 | refine below_set ?_ GE1356.out | refine below_set ?_ GE1428.out) | exact HB.out)⟩
            ·replace c71 := Bool.eq_false_iff.mpr c71
             subst c71
             rw [if_neg (show ¬ (false = true) by decide)] at H
             have H1 := H
             clear H
             have H := H1
             clear H1
             replace H := Option.bind_eq_some_iff.mp H
             obtain ⟨⟨t1478, t1479⟩, A720, H⟩ := H
             (try dsimp only at H)
             have A72 := Aside0.mk A720
             clear A720
             replace H := Option.bind_eq_some_iff.mp H
             obtain ⟨t1480, A730, H⟩ := H
             (try dsimp only at H)
             have A73 := Aside0.mk A730
             clear A730
             by_cases c74 : t1480 < 0
             ·rw [if_pos c74] at H
              have c74b0 : decide (t1480 < 0) = true := decide_eq_true c74
              clear c74
              obtain rfl := Option.some.inj H
              obtain ⟨Ao75, co75, eo75⟩ := Kd.R_slice HO_18.out
              subst eo75
              go_wp2_with (first | ((with_reducible refine gate_callee (f := 31) rfl ?_); refine goesL_ (some 107) rfl rfl Tryd.func31 (by kernel_rfl) rfl #[.slice Ao75 t1432.length co75, .int .i64 1] rfl (by (try simp only [List.map_toArray, List.map_cons, List.map_nil]); first | done | rfl | (simp only [List.length_drop, List.length_take]; rfl)) ?_; (with_reducible refine (laws_markInt64S.calls kj54 (fun k_ => some k_ = (.slice Ao75 t1432.length co75 : Value).ownBlock) (.slice Ao75 t1432.length co75) t1432 1 t1478 t1479 w _ ?side1 ?side2 A72.out).mono ?_); (case side1 => repeat (first | (with_reducible first | exact HB.out | apply bwA | apply pwN | apply bw1 | refine below_set ?_ GE1356.out | refine below_set ?_ GE1428.out) | exact HB.out)); (case side2 => exact Kd.R_tight rfl HO_18.out); rintro e w76 ⟨rfl, hy0, hb, hkp⟩; refine ⟨_, rfl, ?_⟩; have n0_ := Aside0.mk (Kd.R_mono (ok' := fun k_ => some k_ ≠ (.slice Ao75 t1432.length co75 : Value).ownBlock) (Kd.R_keptB (HO_14.out) hkp (fun k_ hk_ hs_ => (hk_) hs_)) (fun k_ hk_ => hk_.1)); have n1_ := Aside0.mk (Kd.R_reok rfl hy0 (fun k_ e_ => HO_18.out.1 k_ e_)); have n2_ := Aside0.mk (Kd.R_mono (ok' := fun k_ => True) (Kd.R_keptB ((Kd.R_apart' HO_1429028.out (Kd.R_typed HO_18.out) (by decide))) hkp (fun k_ hk_ hs_ => (hk_.2) hs_)) (fun k_ hk_ => trivial)); have n3_ := Aside0.mk (blk_kept (by (with_reducible repeat (first | refine blk_drewN ?_ _ | refine blk_drew ?_ | refine blk_alloc ?_ _)); exact BK1356.out) hkp (fun hs_ => (fun e_ => (Kd.R_ne HO_18.out BK1356.out (by decide)) e_) hs_)); have n4_ := Aside0.mk (blk_kept (by (with_reducible repeat (first | refine blk_drewN ?_ _ | refine blk_drew ?_ | refine blk_alloc ?_ _)); exact BK1428.out) hkp (fun hs_ => (fun e_ => (Kd.R_ne HO_18.out BK1428.out (by decide)) e_) hs_)); have n5_ := Aside0.mk (hb); clear HO_14; clear HO_18; clear HO_1429028; clear BK1356; clear BK1428; clear HB; have HO_14 := n0_; have HO_18 := n1_; have HO_1429028 := n2_; have BK1356 := n3_; have BK1428 := n4_; have HB := n5_; clear n0_ n1_ n2_ n3_ n4_ n5_; (try clear hb); (try clear hkp); (try clear hy0)) | ((with_reducible refine gate_callee (f := 32) rfl ?_); refine goesL_ (some 110) rfl rfl Tryd.func32 (by kernel_rfl) rfl #[.slice Ao75 t1479.length co75, .int .i64 1] rfl (by (try simp only [List.map_toArray, List.map_cons, List.map_nil]); first | done | (rw [show t1479.length = t1432.length from (Kd.R_reads' HO_18.out).1.symm] <;> rfl) | rfl | (simp only [List.length_drop, List.length_take]; rfl)) ?_; (with_reducible refine (laws_heldInt64S.calls kj54 _ _ t1479 1 t1480 _ ?side1 ?side2 A73.out).mono ?_); (case side1 => repeat (first | exact (Kd.R_reads' HO_18.out).2.2 | (with_reducible refine Kd.C_alloc ?_ _) | (with_reducible refine Kd.C_drewN ?_ _) | (with_reducible refine Kd.C_drew ?_))); (case side2 => rw [show t1479.length = t1432.length from (Kd.R_reads' HO_18.out).1.symm]; exact (Kd.R_reads' HO_18.out).2.1); rintro e w' ⟨rfl, ⟨nd, rfl⟩⟩; refine ⟨_, rfl, ?_⟩))
              go_ret
              exact ⟨by first | rfl | (simp [errW_none, errW_some] <;> rfl) | (simp [*, errW_none, errW_some] <;> rfl), by repeat (first | (with_reducible first | exact HB.out | apply bwA | apply pwN | apply bw1 | refine below_set ?_ GE1356.out | refine below_set ?_ GE1428.out) | exact HB.out)⟩
             ·rw [if_neg c74] at H
              have c74b0 : decide (t1480 < 0) = false := decide_eq_false c74
              clear c74
              by_cases c77 : t1480 = t1478
              ·rw [if_pos c77] at H
               have c77b0 : (t1480 == t1478) = true := beq_iff_eq.mpr c77
               have c77b1 : (t1480 != t1478) = false := bne_eq_false_iff_eq.mpr c77
               clear c77
               replace H := Option.bind_eq_some_iff.mp H
               obtain ⟨⟨t1481, t1482, t1483, t1484, t1485, t1486, t1487, t1488, t1489, t1490, t1491, t1492, t1493, t1494, t1495, t1496, t1497, t1498, t1499, t1500, t1501, t1502, t1503, t1504, t1505, t1506, t1507, t1508, t1509⟩, A780, H⟩ := H
               (try dsimp only at H)
               have A78 := Aside0.mk A780
               clear A780
               replace H := Option.bind_eq_some_iff.mp H
               obtain ⟨t1512, A790, H⟩ := H
               (try dsimp only at H)
               have A79 := Aside0.mk A790
               clear A790
               replace H := Option.bind_eq_some_iff.mp H
               obtain ⟨⟨t1515, t1518⟩, A800, H⟩ := H
               (try dsimp only at H)
               have A80 := Aside0.mk A800
               clear A800
               have HC81 := Aside0.mk H
               clear H
               obtain ⟨Ao82, co82, eo82⟩ := Kd.R_slice HO_18.out
               subst eo82
               go_upto_region 36 with (first | ((with_reducible refine gate_callee (f := 31) rfl ?_); refine goesL_ (some 107) rfl rfl Tryd.func31 (by kernel_rfl) rfl #[.slice Ao82 t1432.length co82, .int .i64 1] rfl (by (try simp only [List.map_toArray, List.map_cons, List.map_nil]); first | done | rfl | (simp only [List.length_drop, List.length_take]; rfl)) ?_; (with_reducible refine (laws_markInt64S.calls kj54 (fun k_ => some k_ = (.slice Ao82 t1432.length co82 : Value).ownBlock) (.slice Ao82 t1432.length co82) t1432 1 t1478 t1479 w _ ?side1 ?side2 A72.out).mono ?_); (case side1 => repeat (first | (with_reducible first | exact HB.out | apply bwA | apply pwN | apply bw1 | refine below_set ?_ GE1356.out | refine below_set ?_ GE1428.out) | exact HB.out)); (case side2 => exact Kd.R_tight rfl HO_18.out); rintro e w83 ⟨rfl, hy0, hb, hkp⟩; refine ⟨_, rfl, ?_⟩; have n0_ := Aside0.mk (Kd.R_mono (ok' := fun k_ => some k_ ≠ (.slice Ao82 t1432.length co82 : Value).ownBlock) (Kd.R_keptB (HO_14.out) hkp (fun k_ hk_ hs_ => (hk_) hs_)) (fun k_ hk_ => hk_.1)); have n1_ := Aside0.mk (Kd.R_reok rfl hy0 (fun k_ e_ => HO_18.out.1 k_ e_)); have n2_ := Aside0.mk (Kd.R_mono (ok' := fun k_ => True) (Kd.R_keptB ((Kd.R_apart' HO_1429028.out (Kd.R_typed HO_18.out) (by decide))) hkp (fun k_ hk_ hs_ => (hk_.2) hs_)) (fun k_ hk_ => trivial)); have n3_ := Aside0.mk (blk_kept (by (with_reducible repeat (first | refine blk_drewN ?_ _ | refine blk_drew ?_ | refine blk_alloc ?_ _)); exact BK1356.out) hkp (fun hs_ => (fun e_ => (Kd.R_ne HO_18.out BK1356.out (by decide)) e_) hs_)); have n4_ := Aside0.mk (blk_kept (by (with_reducible repeat (first | refine blk_drewN ?_ _ | refine blk_drew ?_ | refine blk_alloc ?_ _)); exact BK1428.out) hkp (fun hs_ => (fun e_ => (Kd.R_ne HO_18.out BK1428.out (by decide)) e_) hs_)); have n5_ := Aside0.mk (hb); clear HO_14; clear HO_18; clear HO_1429028; clear BK1356; clear BK1428; clear HB; have HO_14 := n0_; have HO_18 := n1_; have HO_1429028 := n2_; have BK1356 := n3_; have BK1428 := n4_; have HB := n5_; clear n0_ n1_ n2_ n3_ n4_ n5_; (try clear hb); (try clear hkp); (try clear hy0)) | ((with_reducible refine gate_callee (f := 32) rfl ?_); refine goesL_ (some 110) rfl rfl Tryd.func32 (by kernel_rfl) rfl #[.slice Ao82 t1479.length co82, .int .i64 1] rfl (by (try simp only [List.map_toArray, List.map_cons, List.map_nil]); first | done | (rw [show t1479.length = t1432.length from (Kd.R_reads' HO_18.out).1.symm] <;> rfl) | rfl | (simp only [List.length_drop, List.length_take]; rfl)) ?_; (with_reducible refine (laws_heldInt64S.calls kj54 _ _ t1479 1 t1480 _ ?side1 ?side2 A73.out).mono ?_); (case side1 => repeat (first | exact (Kd.R_reads' HO_18.out).2.2 | (with_reducible refine Kd.C_alloc ?_ _) | (with_reducible refine Kd.C_drewN ?_ _) | (with_reducible refine Kd.C_drew ?_))); (case side2 => rw [show t1479.length = t1432.length from (Kd.R_reads' HO_18.out).1.symm]; exact (Kd.R_reads' HO_18.out).2.1); rintro e w' ⟨rfl, ⟨nd, rfl⟩⟩; refine ⟨_, rfl, ?_⟩) | ((with_reducible refine gate_dst (N := 117) rfl ?_); refine wpList_load_mid rfl 26 (.tmp 6) rfl gb1356 0 rfl [.int .i8 F0, .int .i8 F1, .int .i8 F2, .int .i8 F3, .int .i8 F4, .int .i8 F5, .int .i8 F6, .int .i8 F7, .int .i8 F8, .int .i8 F9, .int .i8 F10, .int .i8 F11, .int .i8 F12, .int .i8 F13, .int .i8 F14, .int .i8 F15, .int .i8 F16, .int .i8 F17, .int .i8 F18, .int .i8 F19, .int .i8 F20, .int .i8 F21, .int .i8 F22, .int .i8 F23, .int .i8 F24, .int .i8 F25, .int .i8 F26, .int .i8 F27, .slice A0_28 l0_28.length c0_28] _ (range_partx_ [] [.int .i8 F0, .int .i8 F1, .int .i8 F2, .int .i8 F3, .int .i8 F4, .int .i8 F5, .int .i8 F6, .int .i8 F7, .int .i8 F8, .int .i8 F9, .int .i8 F10, .int .i8 F11, .int .i8 F12, .int .i8 F13, .int .i8 F14, .int .i8 F15, .int .i8 F16, .int .i8 F17, .int .i8 F18, .int .i8 F19, .int .i8 F20, .int .i8 F21, .int .i8 F22, .int .i8 F23, .int .i8 F24, .int .i8 F25, .int .i8 F26, .int .i8 F27, .slice A0_28 l0_28.length c0_28] [] 0 rfl (by (with_reducible repeat (first | refine blk_drewN ?_ _ | refine blk_drew ?_ | refine blk_alloc ?_ _)); exact BK1356.out)) Tryd.underlying26 rfl (by exact (show (Tryd.prog.info? 26).map (·.size) = some 29 by kernel_rfl)) ?_) | ((with_reducible refine gate_callee (f := 20) rfl ?_); refine goesL_ (some 118) rfl rfl Tryd.func20 (by kernel_rfl) rfl #[.agg #[.int .i8 F0, .int .i8 F1, .int .i8 F2, .int .i8 F3, .int .i8 F4, .int .i8 F5, .int .i8 F6, .int .i8 F7, .int .i8 F8, .int .i8 F9, .int .i8 F10, .int .i8 F11, .int .i8 F12, .int .i8 F13, .int .i8 F14, .int .i8 F15, .int .i8 F16, .int .i8 F17, .int .i8 F18, .int .i8 F19, .int .i8 F20, .int .i8 F21, .int .i8 F22, .int .i8 F23, .int .i8 F24, .int .i8 F25, .int .i8 F26, .int .i8 F27, .slice A0_28 l0_28.length c0_28]] rfl (by (try simp only [List.map_toArray, List.map_cons, List.map_nil]); first | done | rfl | (simp only [List.length_drop, List.length_take]; rfl)) ?_; (with_reducible refine (laws_toFace.calls F0 F1 F2 F3 F4 F5 F6 F7 F8 F9 F10 F11 F12 F13 F14 F15 F16 F17 F18 F19 F20 F21 F22 F23 F24 F25 F26 F27 _ _ l0_28 t1481 t1482 t1483 t1484 t1485 t1486 t1487 t1488 t1489 t1490 t1491 t1492 t1493 t1494 t1495 t1496 t1497 t1498 t1499 t1500 t1501 t1502 t1503 t1504 t1505 t1506 t1507 t1508 t1509 _ ?side1 ?side2 A78.out).mono ?_); (case side1 => repeat (first | exact (Kd.C_below HR0_28.out (by repeat (first | (with_reducible first | exact HB.out | apply bwA | apply pwN | apply bw1 | refine below_set ?_ GE1356.out | refine below_set ?_ GE1428.out) | exact HB.out))) | (with_reducible refine Kd.C_alloc ?_ _) | (with_reducible refine Kd.C_drewN ?_ _) | (with_reducible refine Kd.C_drew ?_))); (case side2 => exact HC0_28.out); rintro e w84 ⟨v1510, rfl, ho0, hb⟩; refine ⟨_, rfl, ?_⟩; have n0_ := Aside0.mk (Kd.R_below (by (with_reducible repeat (first | apply Kd.R_alloc | apply Kd.R_drewN | apply Kd.R_drew)); exact HO_14.out) hb); have n1_ := Aside0.mk (Kd.R_below (by (with_reducible repeat (first | apply Kd.R_alloc | apply Kd.R_drewN | apply Kd.R_drew)); exact HO_18.out) hb); have n2_ := Aside0.mk (Kd.R_elder' (by (with_reducible repeat (first | apply Kd.R_alloc | apply Kd.R_drewN | apply Kd.R_drew)); exact HO_1429028.out) (Kd.R_base ho0) hb); have n3_ := Aside0.mk (Kd.R_lower (Kd.R_new' ho0 (Kd.R_lt (by (with_reducible repeat (first | apply Kd.R_alloc | apply Kd.R_drewN | apply Kd.R_drew)); exact HO_1429028.out))) (below_size (by repeat (first | (with_reducible first | exact HB.out | apply bwA | apply pwN | apply bw1 | refine below_set ?_ GE1356.out | refine below_set ?_ GE1428.out) | exact HB.out)))); have n4_ := Aside0.mk (blk_below (g := gb1356) (o := .cells #[.int .i8 F0, .int .i8 F1, .int .i8 F2, .int .i8 F3, .int .i8 F4, .int .i8 F5, .int .i8 F6, .int .i8 F7, .int .i8 F8, .int .i8 F9, .int .i8 F10, .int .i8 F11, .int .i8 F12, .int .i8 F13, .int .i8 F14, .int .i8 F15, .int .i8 F16, .int .i8 F17, .int .i8 F18, .int .i8 F19, .int .i8 F20, .int .i8 F21, .int .i8 F22, .int .i8 F23, .int .i8 F24, .int .i8 F25, .int .i8 F26, .int .i8 F27, .slice A0_28 l0_28.length c0_28] 26 (0, 0)) (by (with_reducible repeat (first | refine blk_drewN ?_ _ | refine blk_drew ?_ | refine blk_alloc ?_ _)); exact BK1356.out) hb); have n5_ := Aside0.mk (blk_below (g := gb1428) (o := .cells #[.int .i8 t1397, .int .i8 t1398, .int .i8 t1399, .int .i8 t1400, .int .i8 t1401, .int .i8 t1402, .int .i8 t1403, .int .i8 t1404, .int .i8 t1405, .int .i8 t1406, .int .i8 t1407, .int .i8 t1408, .int .i8 t1409, .int .i8 t1410, .int .i8 t1411, .int .i8 t1412, .int .i8 t1413, .int .i8 t1414, .int .i8 t1415, .int .i8 t1416, .int .i8 t1417, .int .i8 t1418, .int .i8 t1419, .int .i8 t1420, .int .i8 t1421, .int .i8 t1422, .int .i8 t1423, .int .i8 t1424, .slice Ao35 t1474.length co35] 32 (0, 0)) (by (with_reducible repeat (first | refine blk_drewN ?_ _ | refine blk_drew ?_ | refine blk_alloc ?_ _)); exact BK1428.out) hb); have n6_ := Aside0.mk (below_step (by repeat (first | (with_reducible first | exact HB.out | apply bwA | apply pwN | apply bw1 | refine below_set ?_ GE1356.out | refine below_set ?_ GE1428.out) | exact HB.out)) hb); clear HO_14; clear HO_18; clear HO_1429028; clear BK1356; clear BK1428; clear HB; have HO_14 := n0_; have HO_18 := n1_; have HO_1429028 := n2_; have HO1511 := n3_; have BK1356 := n4_; have BK1428 := n5_; have HB := n6_; clear n0_ n1_ n2_ n3_ n4_ n5_ n6_; (try clear hb); (try clear hb2); (try clear hk); (try clear hi); (try clear ho0)) | ((with_reducible refine gate_callee (f := 41) rfl ?_); refine goesL_ (some 122) rfl rfl Tryd.func41 (by kernel_rfl) rfl #[.slice A3 l3.length c3] rfl (by (try simp only [List.map_toArray, List.map_cons, List.map_nil]); first | done | rfl | (simp only [List.length_drop, List.length_take]; rfl)) ?_; (with_reducible refine (laws_toStringS.calls kj54 _ _ l3 t1512 _ ?side1 ?side2 A79.out).mono ?_); (case side1 => repeat (first | exact (Kd.C_below HR3.out HB.out) | (with_reducible refine Kd.C_alloc ?_ _) | (with_reducible refine Kd.C_drewN ?_ _) | (with_reducible refine Kd.C_drew ?_))); (case side2 => exact HC3.out); rintro e w85 ⟨v1513, rfl, ho0, hb⟩; refine ⟨_, rfl, ?_⟩; have n0_ := Aside0.mk (Kd.R_below (by (with_reducible repeat (first | apply Kd.R_alloc | apply Kd.R_drewN | apply Kd.R_drew)); exact HO_14.out) hb); have n1_ := Aside0.mk (Kd.R_below (by (with_reducible repeat (first | apply Kd.R_alloc | apply Kd.R_drewN | apply Kd.R_drew)); exact HO_18.out) hb); have n2_ := Aside0.mk (Kd.R_below (by (with_reducible repeat (first | apply Kd.R_alloc | apply Kd.R_drewN | apply Kd.R_drew)); exact HO_1429028.out) hb); have n3_ := Aside0.mk (Kd.R_below (by (with_reducible repeat (first | apply Kd.R_alloc | apply Kd.R_drewN | apply Kd.R_drew)); exact HO1511.out) hb); have n4_ := Aside0.mk (Kd.R_lower ho0 (below_size (by repeat (first | (with_reducible first | exact HB.out | apply bwA | apply pwN | apply bw1 | refine below_set ?_ GE1356.out | refine below_set ?_ GE1428.out) | exact HB.out)))); have n5_ := Aside0.mk (blk_below (g := gb1356) (o := .cells #[.int .i8 F0, .int .i8 F1, .int .i8 F2, .int .i8 F3, .int .i8 F4, .int .i8 F5, .int .i8 F6, .int .i8 F7, .int .i8 F8, .int .i8 F9, .int .i8 F10, .int .i8 F11, .int .i8 F12, .int .i8 F13, .int .i8 F14, .int .i8 F15, .int .i8 F16, .int .i8 F17, .int .i8 F18, .int .i8 F19, .int .i8 F20, .int .i8 F21, .int .i8 F22, .int .i8 F23, .int .i8 F24, .int .i8 F25, .int .i8 F26, .int .i8 F27, .slice A0_28 l0_28.length c0_28] 26 (0, 0)) (by (with_reducible repeat (first | refine blk_drewN ?_ _ | refine blk_drew ?_ | refine blk_alloc ?_ _)); exact BK1356.out) hb); have n6_ := Aside0.mk (blk_below (g := gb1428) (o := .cells #[.int .i8 t1397, .int .i8 t1398, .int .i8 t1399, .int .i8 t1400, .int .i8 t1401, .int .i8 t1402, .int .i8 t1403, .int .i8 t1404, .int .i8 t1405, .int .i8 t1406, .int .i8 t1407, .int .i8 t1408, .int .i8 t1409, .int .i8 t1410, .int .i8 t1411, .int .i8 t1412, .int .i8 t1413, .int .i8 t1414, .int .i8 t1415, .int .i8 t1416, .int .i8 t1417, .int .i8 t1418, .int .i8 t1419, .int .i8 t1420, .int .i8 t1421, .int .i8 t1422, .int .i8 t1423, .int .i8 t1424, .slice Ao35 t1474.length co35] 32 (0, 0)) (by (with_reducible repeat (first | refine blk_drewN ?_ _ | refine blk_drew ?_ | refine blk_alloc ?_ _)); exact BK1428.out) hb); have n7_ := Aside0.mk (below_step (by repeat (first | (with_reducible first | exact HB.out | apply bwA | apply pwN | apply bw1 | refine below_set ?_ GE1356.out | refine below_set ?_ GE1428.out) | exact HB.out)) hb); clear HO_14; clear HO_18; clear HO_1429028; clear HO1511; clear BK1356; clear BK1428; clear HB; have HO_14 := n0_; have HO_18 := n1_; have HO_1429028 := n2_; have HO1511 := n3_; have HO1514 := n4_; have BK1356 := n5_; have BK1428 := n6_; have HB := n7_; clear n0_ n1_ n2_ n3_ n4_ n5_ n6_ n7_; (try clear hb); (try clear hb2); (try clear hk); (try clear hi); (try clear ho0); obtain ⟨Ao86, co86, eo86⟩ := Kd.R_slice HO1511.out; subst eo86; obtain ⟨Ao87, co87, eo87⟩ := Kd.R_slice HO1514.out; subst eo87) | ((with_reducible refine gate_callee (f := 45) rfl ?_); refine goesL_ (some 125) rfl rfl Tryd.func45 (by kernel_rfl) rfl #[.agg #[.int .i8 t1481, .int .i8 t1482, .int .i8 t1483, .int .i8 t1484, .int .i8 t1485, .int .i8 t1486, .int .i8 t1487, .int .i8 t1488, .int .i8 t1489, .int .i8 t1490, .int .i8 t1491, .int .i8 t1492, .int .i8 t1493, .int .i8 t1494, .int .i8 t1495, .int .i8 t1496, .int .i8 t1497, .int .i8 t1498, .int .i8 t1499, .int .i8 t1500, .int .i8 t1501, .int .i8 t1502, .int .i8 t1503, .int .i8 t1504, .int .i8 t1505, .int .i8 t1506, .int .i8 t1507, .int .i8 t1508, .slice Ao86 t1509.length co86], .string a1, .string a2, .slice Ao87 t1512.length co87, .int .i64 a4, .int .i64 a5] rfl (by (try simp only [List.map_toArray, List.map_cons, List.map_nil]); first | done | rfl | (simp only [List.length_drop, List.length_take]; rfl)) ?_; (with_reducible refine (impl_FillWord.calls t1481 t1482 t1483 t1484 t1485 t1486 t1487 t1488 t1489 t1490 t1491 t1492 t1493 t1494 t1495 t1496 t1497 t1498 t1499 t1500 t1501 t1502 t1503 t1504 t1505 t1506 t1507 t1508 _ _ t1509 a1 a2 _ _ t1512 a4 a5 t1515 t1518 _ ?side1 ?side2 ?side3 ?side4 ?sideG A80.out).mono ?_); (case sideG => first | exact HG.out.below (by repeat (first | (with_reducible first | exact HB.out | apply bwA | apply pwN | apply bw1) | exact HB.out)) | exact (HG.out.below (by repeat (first | (with_reducible first | exact HB.out | apply bwA | apply pwN | apply bw1) | exact HB.out))).toM); (case side1 => repeat (first | exact (Kd.R_reads' HO1511.out).2.2 | (with_reducible refine Kd.C_alloc ?_ _) | (with_reducible refine Kd.C_drewN ?_ _) | (with_reducible refine Kd.C_drew ?_))); (case side2 => exact (Kd.R_reads' HO1511.out).2.1); (case side3 => repeat (first | exact (Kd.R_reads' HO1514.out).2.2 | (with_reducible refine Kd.C_alloc ?_ _) | (with_reducible refine Kd.C_drewN ?_ _) | (with_reducible refine Kd.C_drew ?_))); (case side4 => exact (Kd.R_reads' HO1514.out).2.1); rintro e w88 ⟨v1516, rfl, ho0, hb⟩; refine ⟨_, rfl, ?_⟩; have n0_ := Aside0.mk (Kd.R_elder' (by (with_reducible repeat (first | apply Kd.R_alloc | apply Kd.R_drewN | apply Kd.R_drew)); exact HO_14.out) (Kd.R_base ho0) hb); have n1_ := Aside0.mk (Kd.R_elder' (by (with_reducible repeat (first | apply Kd.R_alloc | apply Kd.R_drewN | apply Kd.R_drew)); exact HO_18.out) (Kd.R_base ho0) hb); have n2_ := Aside0.mk (Kd.R_below (by (with_reducible repeat (first | apply Kd.R_alloc | apply Kd.R_drewN | apply Kd.R_drew)); exact HO_1429028.out) hb); have n3_ := Aside0.mk (Kd.R_below (by (with_reducible repeat (first | apply Kd.R_alloc | apply Kd.R_drewN | apply Kd.R_drew)); exact HO1511.out) hb); have n4_ := Aside0.mk (Kd.R_below (by (with_reducible repeat (first | apply Kd.R_alloc | apply Kd.R_drewN | apply Kd.R_drew)); exact HO1514.out) hb); have n5_ := Aside0.mk (Kd.R_lower (Kd.R_new' (Kd.R_new' ho0 (Kd.R_lt (by (with_reducible repeat (first | apply Kd.R_alloc | apply Kd.R_drewN | apply Kd.R_drew)); exact HO_14.out))) (Kd.R_lt (by (with_reducible repeat (first | apply Kd.R_alloc | apply Kd.R_drewN | apply Kd.R_drew)); exact HO_18.out))) (below_size (by repeat (first | (with_reducible first | exact HB.out | apply bwA | apply pwN | apply bw1 | refine below_set ?_ GE1356.out | refine below_set ?_ GE1428.out) | exact HB.out)))); have n6_ := Aside0.mk (blk_below (g := gb1356) (o := .cells #[.int .i8 F0, .int .i8 F1, .int .i8 F2, .int .i8 F3, .int .i8 F4, .int .i8 F5, .int .i8 F6, .int .i8 F7, .int .i8 F8, .int .i8 F9, .int .i8 F10, .int .i8 F11, .int .i8 F12, .int .i8 F13, .int .i8 F14, .int .i8 F15, .int .i8 F16, .int .i8 F17, .int .i8 F18, .int .i8 F19, .int .i8 F20, .int .i8 F21, .int .i8 F22, .int .i8 F23, .int .i8 F24, .int .i8 F25, .int .i8 F26, .int .i8 F27, .slice A0_28 l0_28.length c0_28] 26 (0, 0)) (by (with_reducible repeat (first | refine blk_drewN ?_ _ | refine blk_drew ?_ | refine blk_alloc ?_ _)); exact BK1356.out) hb); have n7_ := Aside0.mk (blk_below (g := gb1428) (o := .cells #[.int .i8 t1397, .int .i8 t1398, .int .i8 t1399, .int .i8 t1400, .int .i8 t1401, .int .i8 t1402, .int .i8 t1403, .int .i8 t1404, .int .i8 t1405, .int .i8 t1406, .int .i8 t1407, .int .i8 t1408, .int .i8 t1409, .int .i8 t1410, .int .i8 t1411, .int .i8 t1412, .int .i8 t1413, .int .i8 t1414, .int .i8 t1415, .int .i8 t1416, .int .i8 t1417, .int .i8 t1418, .int .i8 t1419, .int .i8 t1420, .int .i8 t1421, .int .i8 t1422, .int .i8 t1423, .int .i8 t1424, .slice Ao35 t1474.length co35] 32 (0, 0)) (by (with_reducible repeat (first | refine blk_drewN ?_ _ | refine blk_drew ?_ | refine blk_alloc ?_ _)); exact BK1428.out) hb); have n8_ := Aside0.mk (below_step (by repeat (first | (with_reducible first | exact HB.out | apply bwA | apply pwN | apply bw1 | refine below_set ?_ GE1356.out | refine below_set ?_ GE1428.out) | exact HB.out)) hb); clear HO_14; clear HO_18; clear HO_1429028; clear HO1511; clear HO1514; clear BK1356; clear BK1428; clear HB; have HO_14 := n0_; have HO_18 := n1_; have HO_1429028 := n2_; have HO1511 := n3_; have HO1514 := n4_; have HO1517 := n5_; have BK1356 := n6_; have BK1428 := n7_; have HB := n8_; clear n0_ n1_ n2_ n3_ n4_ n5_ n6_ n7_ n8_; (try clear hb); (try clear hb2); (try clear hk); (try clear hi); (try clear ho0)))
               (try simp only [Act.put, List.setIfInBounds_toArray, List.set_cons_zero, List.set_cons_succ])
               go_cut [136] (fun v136 wc => ∃ (kq : Nat) (x136_80 : Bool), v136 = .bool x136_80 ∧ Aside0 (laws_FnExactFillWord.j2 kq t1479 t1478 x136_80 = some r) ∧ Aside0 (kq ≤ kj54) ∧ Aside0 (Kd.R (Kd.int .i64) 2 wc w.heap.size (fun _ => True) (.slice Ao82 t1432.length co82) t1479) ∧ Aside0 (Kd.R k137 137 wc w.heap.size (fun _ => True) (.slice Ao35 t1474.length co35) t1474) ∧ Aside0 (wc.heap[gb1356]? = some (.cells #[.int .i8 F0, .int .i8 F1, .int .i8 F2, .int .i8 F3, .int .i8 F4, .int .i8 F5, .int .i8 F6, .int .i8 F7, .int .i8 F8, .int .i8 F9, .int .i8 F10, .int .i8 F11, .int .i8 F12, .int .i8 F13, .int .i8 F14, .int .i8 F15, .int .i8 F16, .int .i8 F17, .int .i8 F18, .int .i8 F19, .int .i8 F20, .int .i8 F21, .int .i8 F22, .int .i8 F23, .int .i8 F24, .int .i8 F25, .int .i8 F26, .int .i8 F27, (.slice A0_28 l0_28.length c0_28)] 26 (0, 0))) ∧ Aside0 (wc.heap[gb1428]? = some (.cells #[.int .i8 t1397, .int .i8 t1398, .int .i8 t1399, .int .i8 t1400, .int .i8 t1401, .int .i8 t1402, .int .i8 t1403, .int .i8 t1404, .int .i8 t1405, .int .i8 t1406, .int .i8 t1407, .int .i8 t1408, .int .i8 t1409, .int .i8 t1410, .int .i8 t1411, .int .i8 t1412, .int .i8 t1413, .int .i8 t1414, .int .i8 t1415, .int .i8 t1416, .int .i8 t1417, .int .i8 t1418, .int .i8 t1419, .int .i8 t1420, .int .i8 t1421, .int .i8 t1422, .int .i8 t1423, .int .i8 t1424, (.slice Ao35 t1474.length co35)] 32 (0, 0))) ∧ Aside0 (Below w.heap.size w wc))
               case first =>
                have H := HC81.out
                clear HC81
                replace H := Option.bind_eq_some_iff.mp H
                obtain ⟨t1519, A890, H⟩ := H
                (try dsimp only at H)
                have A89 := Aside0.mk A890
                clear A890
                by_cases c90 : t1519 = true
                ·subst c90
                 rw [if_pos rfl] at H
                 have H1 := H
                 clear H
                 have H := H1
                 clear H1
                 have H' := Aside0.mk H
                 clear H
                 obtain ⟨Ao91, co91, eo91⟩ := Kd.R_slice HO1517.out
                 subst eo91
                 obtain ⟨Ao92, co92, eo92⟩ := Kd.R_slice HO_14.out
                 subst eo92
                 go_wp2_with (first | ((with_reducible refine gate_callee (f := 29) rfl ?_); refine goesL_ (some 130) rfl rfl Tryd.func29 (by kernel_rfl) rfl #[.slice Ao91 t1515.length co91, .slice Ao92 t1393.length co92] rfl (by (try simp only [List.map_toArray, List.map_cons, List.map_nil]); first | done | rfl | (simp only [List.length_drop, List.length_take]; rfl)) ?_; (with_reducible refine (laws_eqInt64S.calls kj54 _ _ t1515 _ _ t1393 true _ ?side1 ?side2 ?side3 ?side4 A89.out).mono ?_); (case side1 => repeat (first | exact (Kd.R_reads' HO1517.out).2.2 | (with_reducible refine Kd.C_alloc ?_ _) | (with_reducible refine Kd.C_drewN ?_ _) | (with_reducible refine Kd.C_drew ?_))); (case side2 => exact (Kd.R_reads' HO1517.out).2.1); (case side3 => repeat (first | exact (Kd.R_reads' HO_14.out).2.2 | (with_reducible refine Kd.C_alloc ?_ _) | (with_reducible refine Kd.C_drewN ?_ _) | (with_reducible refine Kd.C_drew ?_))); (case side4 => exact (Kd.R_reads' HO_14.out).2.1); rintro e w' ⟨rfl, ⟨nd, rfl⟩⟩; refine ⟨_, rfl, ?_⟩))
                 go_meet
                 case rel => exact ⟨_, ((t1518 != t1396)), (by first | rfl | (simp; done) | (simp [*]; done)), H', ⟨by have := HJ24.out; have := HJ54.out; first | omega | exact Nat.le_refl _⟩, ⟨by (try simp only [hl1429028_54]); (with_reducible repeat (first | apply Kd.R_alloc | apply Kd.R_drewN | apply Kd.R_drew)); exact Kd.R_mono HO_18.out (fun _ hk => trivial)⟩, ⟨by (try simp only [hl1429028_54]); (with_reducible repeat (first | apply Kd.R_alloc | apply Kd.R_drewN | apply Kd.R_drew)); exact Kd.R_mono HO_1429028.out (fun _ hk => trivial)⟩, ⟨by (try simp only [hl1429028_54]); (with_reducible repeat (first | refine blk_drewN ?_ _ | refine blk_drew ?_ | refine blk_alloc ?_ _)); exact BK1356.out⟩, ⟨by (try simp only [hl1429028_54]); (with_reducible repeat (first | refine blk_drewN ?_ _ | refine blk_drew ?_ | refine blk_alloc ?_ _)); exact BK1428.out⟩, ⟨by repeat (first | (with_reducible first | exact HB.out | apply bwA | apply pwN | apply bw1 | refine below_set ?_ GE1356.out | refine below_set ?_ GE1428.out) | exact HB.out)⟩⟩
                ·replace c90 := Bool.eq_false_iff.mpr c90
                 subst c90
                 rw [if_neg (show ¬ (false = true) by decide)] at H
                 have H1 := H
                 clear H
                 have H := H1
                 clear H1
                 have H' := Aside0.mk H
                 clear H
                 obtain ⟨Ao93, co93, eo93⟩ := Kd.R_slice HO1517.out
                 subst eo93
                 obtain ⟨Ao94, co94, eo94⟩ := Kd.R_slice HO_14.out
                 subst eo94
                 go_wp2_with (first | ((with_reducible refine gate_callee (f := 29) rfl ?_); refine goesL_ (some 130) rfl rfl Tryd.func29 (by kernel_rfl) rfl #[.slice Ao93 t1515.length co93, .slice Ao94 t1393.length co94] rfl (by (try simp only [List.map_toArray, List.map_cons, List.map_nil]); first | done | rfl | (simp only [List.length_drop, List.length_take]; rfl)) ?_; (with_reducible refine (laws_eqInt64S.calls kj54 _ _ t1515 _ _ t1393 false _ ?side1 ?side2 ?side3 ?side4 A89.out).mono ?_); (case side1 => repeat (first | exact (Kd.R_reads' HO1517.out).2.2 | (with_reducible refine Kd.C_alloc ?_ _) | (with_reducible refine Kd.C_drewN ?_ _) | (with_reducible refine Kd.C_drew ?_))); (case side2 => exact (Kd.R_reads' HO1517.out).2.1); (case side3 => repeat (first | exact (Kd.R_reads' HO_14.out).2.2 | (with_reducible refine Kd.C_alloc ?_ _) | (with_reducible refine Kd.C_drewN ?_ _) | (with_reducible refine Kd.C_drew ?_))); (case side4 => exact (Kd.R_reads' HO_14.out).2.1); rintro e w' ⟨rfl, ⟨nd, rfl⟩⟩; refine ⟨_, rfl, ?_⟩))
                 go_meet
                 case rel => exact ⟨_, (true), (by first | rfl | (simp; done) | (simp [*]; done)), H', ⟨by have := HJ24.out; have := HJ54.out; first | omega | exact Nat.le_refl _⟩, ⟨by (try simp only [hl1429028_54]); (with_reducible repeat (first | apply Kd.R_alloc | apply Kd.R_drewN | apply Kd.R_drew)); exact Kd.R_mono HO_18.out (fun _ hk => trivial)⟩, ⟨by (try simp only [hl1429028_54]); (with_reducible repeat (first | apply Kd.R_alloc | apply Kd.R_drewN | apply Kd.R_drew)); exact Kd.R_mono HO_1429028.out (fun _ hk => trivial)⟩, ⟨by (try simp only [hl1429028_54]); (with_reducible repeat (first | refine blk_drewN ?_ _ | refine blk_drew ?_ | refine blk_alloc ?_ _)); exact BK1356.out⟩, ⟨by (try simp only [hl1429028_54]); (with_reducible repeat (first | refine blk_drewN ?_ _ | refine blk_drew ?_ | refine blk_alloc ?_ _)); exact BK1428.out⟩, ⟨by repeat (first | (with_reducible first | exact HB.out | apply bwA | apply pwN | apply bw1 | refine below_set ?_ GE1356.out | refine below_set ?_ GE1428.out) | exact HB.out)⟩⟩
               case rest =>
                clear HC81
                try clear c1
                try clear c2
                try clear p2
                try clear c3
                try clear c4
                try clear c5
                try clear c6
                try clear c7
                try clear c7b0
                try clear c7b1
                try clear c9
                try clear c9b0
                try clear c9b1
                try clear c11
                try clear c12
                try clear c12b0
                try clear c16
                try clear c16b0
                try clear c18
                try clear c20
                try clear c22
                try clear c29
                try clear c30
                try clear c31
                try clear c32
                try clear c39
                try clear c41
                try clear c43
                try clear c44
                try clear c45
                try clear c46
                try clear c49
                try clear c52
                try clear c64
                try clear c64b0
                try clear c66
                try clear c71
                try clear c74
                try clear c74b0
                try clear c77
                try clear c77b0
                try clear c77b1
                try clear c90
                try clear p2
                obtain ⟨kq, x136_80, rfl, HA, HJ80, HO_18, HO_1429028, BK1356, BK1428, HB⟩ := hcut
                have hl18_80 := (Kd.R_reads' HO_18.out).1
                rw [hl18_80] at HO_18
                (try simp only [hl18_80])
                (try simp only [hl18_80] at BK1356)
                (try simp only [hl18_80] at BK1428)
                (try simp only [hl18_80] at HO_1429028)
                cases kq with
                | zero => exact absurd HA.out (by simp [laws_FnExactFillWord.j2])
                | succ kj80 =>
                 have H := HA.out
                 clear HA
                 simp only [laws_FnExactFillWord.j2] at H
                 by_cases c95 : x136_80 = true
                 ·subst c95
                  rw [if_pos rfl] at H
                  have H1 := H
                  clear H
                  have H := H1
                  clear H1
                  obtain rfl := Option.some.inj H
                  go_wp2
                  go_ret
                  exact ⟨by first | rfl | (simp [errW_none, errW_some] <;> rfl) | (simp [*, errW_none, errW_some] <;> rfl), by repeat (first | (with_reducible first | exact HB.out | apply bwA | apply pwN | apply bw1 | refine below_set ?_ GE1356.out | refine below_set ?_ GE1428.out) | exact HB.out)⟩
                 ·replace c95 := Bool.eq_false_iff.mpr c95
                  subst c95
                  rw [if_neg (show ¬ (false = true) by decide)] at H
                  have H1 := H
                  clear H
                  have H := H1
                  clear H1
                  replace H := Option.bind_eq_some_iff.mp H
                  obtain ⟨t1520, A960, H⟩ := H
                  (try dsimp only at H)
                  have A96 := Aside0.mk A960
                  clear A960
                  by_cases c97 : t1520 < 0
                  ·rw [if_pos c97] at H
                   have c97b0 : decide (t1520 < 0) = true := decide_eq_true c97
                   clear c97
                   obtain rfl := Option.some.inj H
                   go_wp2_with (first | ((with_reducible refine gate_callee (f := 32) rfl ?_); refine goesL_ (some 139) rfl rfl Tryd.func32 (by kernel_rfl) rfl #[.slice Ao82 t1479.length co82, .int .i64 1] rfl (by (try simp only [List.map_toArray, List.map_cons, List.map_nil]); first | done | rfl | (simp only [List.length_drop, List.length_take]; rfl)) ?_; (with_reducible refine (laws_heldInt64S.calls kj80 _ _ t1479 1 t1520 _ ?side1 ?side2 A96.out).mono ?_); (case side1 => repeat (first | exact (Kd.R_reads' HO_18.out).2.2 | (with_reducible refine Kd.C_alloc ?_ _) | (with_reducible refine Kd.C_drewN ?_ _) | (with_reducible refine Kd.C_drew ?_))); (case side2 => exact (Kd.R_reads' HO_18.out).2.1); rintro e w' ⟨rfl, ⟨nd, rfl⟩⟩; refine ⟨_, rfl, ?_⟩))
                   go_ret
                   exact ⟨by first | rfl | (simp [errW_none, errW_some] <;> rfl) | (simp [*, errW_none, errW_some] <;> rfl), by repeat (first | (with_reducible first | exact HB.out | apply bwA | apply pwN | apply bw1 | refine below_set ?_ GE1356.out | refine below_set ?_ GE1428.out) | exact HB.out)⟩
                  ·rw [if_neg c97] at H
                   have c97b0 : decide (t1520 < 0) = false := decide_eq_false c97
                   clear c97
                   by_cases c98 : t1520 = t1478
                   ·rw [if_pos c98] at H
                    have c98b0 : (t1520 == t1478) = true := beq_iff_eq.mpr c98
                    have c98b1 : (t1520 != t1478) = false := bne_eq_false_iff_eq.mpr c98
                    clear c98
                    obtain rfl := Option.some.inj H
                    go_wp2_with (first | ((with_reducible refine gate_callee (f := 32) rfl ?_); refine goesL_ (some 139) rfl rfl Tryd.func32 (by kernel_rfl) rfl #[.slice Ao82 t1479.length co82, .int .i64 1] rfl (by (try simp only [List.map_toArray, List.map_cons, List.map_nil]); first | done | rfl | (simp only [List.length_drop, List.length_take]; rfl)) ?_; (with_reducible refine (laws_heldInt64S.calls kj80 _ _ t1479 1 t1520 _ ?side1 ?side2 A96.out).mono ?_); (case side1 => repeat (first | exact (Kd.R_reads' HO_18.out).2.2 | (with_reducible refine Kd.C_alloc ?_ _) | (with_reducible refine Kd.C_drewN ?_ _) | (with_reducible refine Kd.C_drew ?_))); (case side2 => exact (Kd.R_reads' HO_18.out).2.1); rintro e w' ⟨rfl, ⟨nd, rfl⟩⟩; refine ⟨_, rfl, ?_⟩))
                    go_ret
                    exact ⟨by first | rfl | (simp [errW_none, errW_some] <;> rfl) | (simp [*, errW_none, errW_some] <;> rfl), by repeat (first | (with_reducible first | exact HB.out | apply bwA | apply pwN | apply bw1 | refine below_set ?_ GE1356.out | refine below_set ?_ GE1428.out) | exact HB.out)⟩
                   ·rw [if_neg c98] at H
                    have c98b0 : (t1520 == t1478) = false := beq_eq_false_iff_ne.mpr c98
                    have c98b1 : (t1520 != t1478) = true := bne_iff_ne.mpr c98
                    obtain rfl := Option.some.inj H
                    go_wp2_with (first | ((with_reducible refine gate_callee (f := 32) rfl ?_); refine goesL_ (some 139) rfl rfl Tryd.func32 (by kernel_rfl) rfl #[.slice Ao82 t1479.length co82, .int .i64 1] rfl (by (try simp only [List.map_toArray, List.map_cons, List.map_nil]); first | done | rfl | (simp only [List.length_drop, List.length_take]; rfl)) ?_; (with_reducible refine (laws_heldInt64S.calls kj80 _ _ t1479 1 t1520 _ ?side1 ?side2 A96.out).mono ?_); (case side1 => repeat (first | exact (Kd.R_reads' HO_18.out).2.2 | (with_reducible refine Kd.C_alloc ?_ _) | (with_reducible refine Kd.C_drewN ?_ _) | (with_reducible refine Kd.C_drew ?_))); (case side2 => exact (Kd.R_reads' HO_18.out).2.1); rintro e w' ⟨rfl, ⟨nd, rfl⟩⟩; refine ⟨_, rfl, ?_⟩))
                    go_ret
                    exact ⟨by first | rfl | (simp [errW_none, errW_some] <;> rfl) | (simp [*, errW_none, errW_some] <;> rfl), by repeat (first | (with_reducible first | exact HB.out | apply bwA | apply pwN | apply bw1 | refine below_set ?_ GE1356.out | refine below_set ?_ GE1428.out) | exact HB.out)⟩
              ·rw [if_neg c77] at H
               have c77b0 : (t1480 == t1478) = false := beq_eq_false_iff_ne.mpr c77
               have c77b1 : (t1480 != t1478) = true := bne_iff_ne.mpr c77
               obtain rfl := Option.some.inj H
               obtain ⟨Ao99, co99, eo99⟩ := Kd.R_slice HO_18.out
               subst eo99
               go_wp2_with (first | ((with_reducible refine gate_callee (f := 31) rfl ?_); refine goesL_ (some 107) rfl rfl Tryd.func31 (by kernel_rfl) rfl #[.slice Ao99 t1432.length co99, .int .i64 1] rfl (by (try simp only [List.map_toArray, List.map_cons, List.map_nil]); first | done | rfl | (simp only [List.length_drop, List.length_take]; rfl)) ?_; (with_reducible refine (laws_markInt64S.calls kj54 (fun k_ => some k_ = (.slice Ao99 t1432.length co99 : Value).ownBlock) (.slice Ao99 t1432.length co99) t1432 1 t1478 t1479 w _ ?side1 ?side2 A72.out).mono ?_); (case side1 => repeat (first | (with_reducible first | exact HB.out | apply bwA | apply pwN | apply bw1 | refine below_set ?_ GE1356.out | refine below_set ?_ GE1428.out) | exact HB.out)); (case side2 => exact Kd.R_tight rfl HO_18.out); rintro e w100 ⟨rfl, hy0, hb, hkp⟩; refine ⟨_, rfl, ?_⟩; have n0_ := Aside0.mk (Kd.R_mono (ok' := fun k_ => some k_ ≠ (.slice Ao99 t1432.length co99 : Value).ownBlock) (Kd.R_keptB (HO_14.out) hkp (fun k_ hk_ hs_ => (hk_) hs_)) (fun k_ hk_ => hk_.1)); have n1_ := Aside0.mk (Kd.R_reok rfl hy0 (fun k_ e_ => HO_18.out.1 k_ e_)); have n2_ := Aside0.mk (Kd.R_mono (ok' := fun k_ => True) (Kd.R_keptB ((Kd.R_apart' HO_1429028.out (Kd.R_typed HO_18.out) (by decide))) hkp (fun k_ hk_ hs_ => (hk_.2) hs_)) (fun k_ hk_ => trivial)); have n3_ := Aside0.mk (blk_kept (by (with_reducible repeat (first | refine blk_drewN ?_ _ | refine blk_drew ?_ | refine blk_alloc ?_ _)); exact BK1356.out) hkp (fun hs_ => (fun e_ => (Kd.R_ne HO_18.out BK1356.out (by decide)) e_) hs_)); have n4_ := Aside0.mk (blk_kept (by (with_reducible repeat (first | refine blk_drewN ?_ _ | refine blk_drew ?_ | refine blk_alloc ?_ _)); exact BK1428.out) hkp (fun hs_ => (fun e_ => (Kd.R_ne HO_18.out BK1428.out (by decide)) e_) hs_)); have n5_ := Aside0.mk (hb); clear HO_14; clear HO_18; clear HO_1429028; clear BK1356; clear BK1428; clear HB; have HO_14 := n0_; have HO_18 := n1_; have HO_1429028 := n2_; have BK1356 := n3_; have BK1428 := n4_; have HB := n5_; clear n0_ n1_ n2_ n3_ n4_ n5_; (try clear hb); (try clear hkp); (try clear hy0)) | ((with_reducible refine gate_callee (f := 32) rfl ?_); refine goesL_ (some 110) rfl rfl Tryd.func32 (by kernel_rfl) rfl #[.slice Ao99 t1479.length co99, .int .i64 1] rfl (by (try simp only [List.map_toArray, List.map_cons, List.map_nil]); first | done | (rw [show t1479.length = t1432.length from (Kd.R_reads' HO_18.out).1.symm] <;> rfl) | rfl | (simp only [List.length_drop, List.length_take]; rfl)) ?_; (with_reducible refine (laws_heldInt64S.calls kj54 _ _ t1479 1 t1480 _ ?side1 ?side2 A73.out).mono ?_); (case side1 => repeat (first | exact (Kd.R_reads' HO_18.out).2.2 | (with_reducible refine Kd.C_alloc ?_ _) | (with_reducible refine Kd.C_drewN ?_ _) | (with_reducible refine Kd.C_drew ?_))); (case side2 => rw [show t1479.length = t1432.length from (Kd.R_reads' HO_18.out).1.symm]; exact (Kd.R_reads' HO_18.out).2.1); rintro e w' ⟨rfl, ⟨nd, rfl⟩⟩; refine ⟨_, rfl, ?_⟩))
               go_ret
               exact ⟨by first | rfl | (simp [errW_none, errW_some] <;> rfl) | (simp [*, errW_none, errW_some] <;> rfl), by repeat (first | (with_reducible first | exact HB.out | apply bwA | apply pwN | apply bw1 | refine below_set ?_ GE1356.out | refine below_set ?_ GE1428.out) | exact HB.out)⟩
         ·replace c52 := Bool.eq_false_iff.mpr c52
          subst c52
          rw [if_neg (show ¬ (false = true) by decide)] at H
          have H1 := H
          clear H
          have H := H1
          clear H1
          obtain rfl := Option.some.inj H
          try go_wp2
          have n0_ := Aside0.mk (Kd.R_drew HO_14.out)
          have n1_ := Aside0.mk (Kd.R_drew HO_17.out)
          have n2_ := Aside0.mk (Kd.R_drew HO_18.out)
          have n3_ := Aside0.mk (Kd.R_drew HO_1429028.out)
          have n4_ := Aside0.mk (blk_drew BK1356.out)
          have n5_ := Aside0.mk (blk_drew BK1428.out)
          have n6_ := Aside0.mk (bw1 HB.out)
          clear HO_14
          clear HO_17
          clear HO_18
          clear HO_1429028
          clear BK1356
          clear BK1428
          clear HB
          have HO_14 := n0_
          have HO_17 := n1_
          have HO_18 := n2_
          have HO_1429028 := n3_
          have BK1356 := n4_
          have BK1428 := n5_
          have HB := n6_
          clear n0_ n1_ n2_ n3_ n4_ n5_ n6_
          refine start_ (n := 5) (S := fun w' => w'.heap[gb1428]? = some (.cells #[.int .i8 t1397, .int .i8 t1398, .int .i8 t1399, .int .i8 t1400, .int .i8 t1401, .int .i8 t1402, .int .i8 t1403, .int .i8 t1404, .int .i8 t1405, .int .i8 t1406, .int .i8 t1407, .int .i8 t1408, .int .i8 t1409, .int .i8 t1410, .int .i8 t1411, .int .i8 t1412, .int .i8 t1413, .int .i8 t1414, .int .i8 t1415, .int .i8 t1416, .int .i8 t1417, .int .i8 t1418, .int .i8 t1419, .int .i8 t1420, .int .i8 t1421, .int .i8 t1422, .int .i8 t1423, .int .i8 t1424, .slice Ao35 t1425.length co35] 32 (0, 0)) ∧ w'.heap[gb1356]? = some (.cells #[.int .i8 F0, .int .i8 F1, .int .i8 F2, .int .i8 F3, .int .i8 F4, .int .i8 F5, .int .i8 F6, .int .i8 F7, .int .i8 F8, .int .i8 F9, .int .i8 F10, .int .i8 F11, .int .i8 F12, .int .i8 F13, .int .i8 F14, .int .i8 F15, .int .i8 F16, .int .i8 F17, .int .i8 F18, .int .i8 F19, .int .i8 F20, .int .i8 F21, .int .i8 F22, .int .i8 F23, .int .i8 F24, .int .i8 F25, .int .i8 F26, .int .i8 F27, .slice A0_28 l0_28.length c0_28] 26 (0, 0))) (ds := []) #[false, false, false, false, false] (by kernel_rfl) rfl rfl ⟨BK1428.out, BK1356.out⟩ (fun hHeld => ?_)
          generalize wc.drew = w101 at HO_14 HO_17 HO_18 HO_1429028 BK1356 BK1428 HB hHeld ⊢
          refine take_ (i := 0) (N := some 76) (v := ?_) (a' := ?_) #[true, false, false, false, false] rfl rfl (by kernel_rfl) (fun _ _ _ h => h) (Or.inl ⟨by rfl, ?_⟩) hHeld ?_ ?_
          rotate_left
          ·rintro w' ⟨s0, s1⟩
           refine exec_load_partx_ 32 (.tmp 16) _ 0 [] [.int .i8 t1397, .int .i8 t1398, .int .i8 t1399, .int .i8 t1400, .int .i8 t1401, .int .i8 t1402, .int .i8 t1403, .int .i8 t1404, .int .i8 t1405, .int .i8 t1406, .int .i8 t1407, .int .i8 t1408, .int .i8 t1409, .int .i8 t1410, .int .i8 t1411, .int .i8 t1412, .int .i8 t1413, .int .i8 t1414, .int .i8 t1415, .int .i8 t1416, .int .i8 t1417, .int .i8 t1418, .int .i8 t1419, .int .i8 t1420, .int .i8 t1421, .int .i8 t1422, .int .i8 t1423, .int .i8 t1424, .slice Ao35 t1425.length co35] [] rfl s0 ?_ ?_ Tryd.underlying32 rfl (by exact (show (Tryd.prog.info? 32).map (·.size) = some 29 by kernel_rfl))
           ·rfl
           ·rfl
          rotate_left
          ·simp only [Act.put, List.setIfInBounds_toArray, List.set_cons_zero, List.set_cons_succ, i64_w, i32_w, u8_w_]
           rfl
          refine take_ (i := 1) (N := some 77) (v := ?_) (a' := ?_) #[true, true, false, false, false] rfl rfl (by kernel_rfl) (fun _ _ _ h => h) (Or.inl ⟨by rfl, ?_⟩) hHeld ?_ ?_
          rotate_left
          ·rintro w' ⟨s0, s1⟩
           refine exec_load_partx_ 26 (.tmp 6) _ 0 [] [.int .i8 F0, .int .i8 F1, .int .i8 F2, .int .i8 F3, .int .i8 F4, .int .i8 F5, .int .i8 F6, .int .i8 F7, .int .i8 F8, .int .i8 F9, .int .i8 F10, .int .i8 F11, .int .i8 F12, .int .i8 F13, .int .i8 F14, .int .i8 F15, .int .i8 F16, .int .i8 F17, .int .i8 F18, .int .i8 F19, .int .i8 F20, .int .i8 F21, .int .i8 F22, .int .i8 F23, .int .i8 F24, .int .i8 F25, .int .i8 F26, .int .i8 F27, .slice A0_28 l0_28.length c0_28] [] rfl s1 ?_ ?_ Tryd.underlying26 rfl (by exact (show (Tryd.prog.info? 26).map (·.size) = some 29 by kernel_rfl))
           ·rfl
           ·rfl
          rotate_left
          ·simp only [Act.put, List.setIfInBounds_toArray, List.set_cons_zero, List.set_cons_succ, i64_w, i32_w, u8_w_]
           rfl
          refine one_ (i := 2) (N := some 78) #[true, true, true, false, false] rfl rfl (by kernel_rfl) (by decide) (fun K hK => ?_)
          refine goes_ Tryd.func20 (by kernel_rfl) rfl #[.agg #[.int .i8 F0, .int .i8 F1, .int .i8 F2, .int .i8 F3, .int .i8 F4, .int .i8 F5, .int .i8 F6, .int .i8 F7, .int .i8 F8, .int .i8 F9, .int .i8 F10, .int .i8 F11, .int .i8 F12, .int .i8 F13, .int .i8 F14, .int .i8 F15, .int .i8 F16, .int .i8 F17, .int .i8 F18, .int .i8 F19, .int .i8 F20, .int .i8 F21, .int .i8 F22, .int .i8 F23, .int .i8 F24, .int .i8 F25, .int .i8 F26, .int .i8 F27, .slice A0_28 l0_28.length c0_28]] (by rfl) rfl rfl (by (try simp only [List.map_toArray, List.map_cons, List.map_nil]); first | done | rfl | (simp only [List.length_drop, List.length_take]; rfl)) ?_
          with_reducible refine (laws_toFace.calls F0 F1 F2 F3 F4 F5 F6 F7 F8 F9 F10 F11 F12 F13 F14 F15 F16 F17 F18 F19 F20 F21 F22 F23 F24 F25 F26 F27 _ _ l0_28 t1437 t1438 t1439 t1440 t1441 t1442 t1443 t1444 t1445 t1446 t1447 t1448 t1449 t1450 t1451 t1452 t1453 t1454 t1455 t1456 t1457 t1458 t1459 t1460 t1461 t1462 t1463 t1464 t1465 _ ?side1 ?side2 A47.out).mono ?_
          (case side1 => repeat (first | exact (Kd.C_below HR0_28.out HB.out) | (with_reducible refine Kd.C_alloc ?_ _) | (with_reducible refine Kd.C_drewN ?_ _) | (with_reducible refine Kd.C_drew ?_)))
          (case side2 => exact HC0_28.out)
          rintro e w102 ⟨v1466, rfl, ho0, hb⟩
          refine ⟨_, rfl, ?_⟩
          have n0_ := Aside0.mk (Kd.R_below (by (with_reducible repeat (first | apply Kd.R_alloc | apply Kd.R_drewN | apply Kd.R_drew)); exact HO_14.out) hb)
          have n1_ := Aside0.mk (Kd.R_below (by (with_reducible repeat (first | apply Kd.R_alloc | apply Kd.R_drewN | apply Kd.R_drew)); exact HO_17.out) hb)
          have n2_ := Aside0.mk (Kd.R_below (by (with_reducible repeat (first | apply Kd.R_alloc | apply Kd.R_drewN | apply Kd.R_drew)); exact HO_18.out) hb)
          have n3_ := Aside0.mk (Kd.R_elder' (by (with_reducible repeat (first | apply Kd.R_alloc | apply Kd.R_drewN | apply Kd.R_drew)); exact HO_1429028.out) (Kd.R_base ho0) hb)
          have n4_ := Aside0.mk (Kd.R_lower (Kd.R_new' ho0 (Kd.R_lt (by (with_reducible repeat (first | apply Kd.R_alloc | apply Kd.R_drewN | apply Kd.R_drew)); exact HO_1429028.out))) (below_size (by repeat (first | (with_reducible first | exact HB.out | apply bwA | apply pwN | apply bw1 | refine below_set ?_ GE1356.out | refine below_set ?_ GE1428.out) | exact HB.out))))
          have n5_ := Aside0.mk (blk_below (g := gb1356) (o := .cells #[.int .i8 F0, .int .i8 F1, .int .i8 F2, .int .i8 F3, .int .i8 F4, .int .i8 F5, .int .i8 F6, .int .i8 F7, .int .i8 F8, .int .i8 F9, .int .i8 F10, .int .i8 F11, .int .i8 F12, .int .i8 F13, .int .i8 F14, .int .i8 F15, .int .i8 F16, .int .i8 F17, .int .i8 F18, .int .i8 F19, .int .i8 F20, .int .i8 F21, .int .i8 F22, .int .i8 F23, .int .i8 F24, .int .i8 F25, .int .i8 F26, .int .i8 F27, .slice A0_28 l0_28.length c0_28] 26 (0, 0)) (by (with_reducible repeat (first | refine blk_drewN ?_ _ | refine blk_drew ?_ | refine blk_alloc ?_ _)); exact BK1356.out) hb)
          have n6_ := Aside0.mk (blk_below (g := gb1428) (o := .cells #[.int .i8 t1397, .int .i8 t1398, .int .i8 t1399, .int .i8 t1400, .int .i8 t1401, .int .i8 t1402, .int .i8 t1403, .int .i8 t1404, .int .i8 t1405, .int .i8 t1406, .int .i8 t1407, .int .i8 t1408, .int .i8 t1409, .int .i8 t1410, .int .i8 t1411, .int .i8 t1412, .int .i8 t1413, .int .i8 t1414, .int .i8 t1415, .int .i8 t1416, .int .i8 t1417, .int .i8 t1418, .int .i8 t1419, .int .i8 t1420, .int .i8 t1421, .int .i8 t1422, .int .i8 t1423, .int .i8 t1424, .slice Ao35 t1425.length co35] 32 (0, 0)) (by (with_reducible repeat (first | refine blk_drewN ?_ _ | refine blk_drew ?_ | refine blk_alloc ?_ _)); exact BK1428.out) hb)
          have n7_ := Aside0.mk (below_step (by repeat (first | (with_reducible first | exact HB.out | apply bwA | apply pwN | apply bw1 | refine below_set ?_ GE1356.out | refine below_set ?_ GE1428.out) | exact HB.out)) hb)
          clear HO_14
          clear HO_17
          clear HO_18
          clear HO_1429028
          clear BK1356
          clear BK1428
          clear HB
          have HO_14 := n0_
          have HO_17 := n1_
          have HO_18 := n2_
          have HO_1429028 := n3_
          have HO1467 := n4_
          have BK1356 := n5_
          have BK1428 := n6_
          have HB := n7_
          clear n0_ n1_ n2_ n3_ n4_ n5_ n6_ n7_
          (try clear hb)
          (try clear hb2)
          (try clear hk)
          (try clear hi)
          (try clear ho0)
          obtain ⟨Ao103, co103, eo103⟩ := Kd.R_slice HO1467.out
          (first | subst eo103 | (injection eo103 with f1_ f2_ f3_; have f4_ := f1_.symm; have f5_ := f3_.symm; clear f1_ f2_ f3_; subst f4_; subst f5_))
          refine hK.out _ _ ⟨BK1428.out, BK1356.out⟩ (fun hHeld => ?_)
          clear hK K
          refine norm_ (a' := ?_) ?_ ?_
          rotate_left
          ·show Act.put _ (some 78) _ = _
           simp only [Act.put, List.setIfInBounds_toArray, List.set_cons_zero, List.set_cons_succ, i64_w, i32_w, u8_w_]
           rfl
          refine one_ (i := 3) (N := some 79) #[true, true, true, true, false] rfl rfl (by kernel_rfl) (by decide) (fun K hK => ?_)
          refine goes_ Tryd.func22 (by kernel_rfl) rfl #[.agg #[.int .i8 t1397, .int .i8 t1398, .int .i8 t1399, .int .i8 t1400, .int .i8 t1401, .int .i8 t1402, .int .i8 t1403, .int .i8 t1404, .int .i8 t1405, .int .i8 t1406, .int .i8 t1407, .int .i8 t1408, .int .i8 t1409, .int .i8 t1410, .int .i8 t1411, .int .i8 t1412, .int .i8 t1413, .int .i8 t1414, .int .i8 t1415, .int .i8 t1416, .int .i8 t1417, .int .i8 t1418, .int .i8 t1419, .int .i8 t1420, .int .i8 t1421, .int .i8 t1422, .int .i8 t1423, .int .i8 t1424, .slice Ao35 t1425.length co35], .agg #[.int .i8 t1437, .int .i8 t1438, .int .i8 t1439, .int .i8 t1440, .int .i8 t1441, .int .i8 t1442, .int .i8 t1443, .int .i8 t1444, .int .i8 t1445, .int .i8 t1446, .int .i8 t1447, .int .i8 t1448, .int .i8 t1449, .int .i8 t1450, .int .i8 t1451, .int .i8 t1452, .int .i8 t1453, .int .i8 t1454, .int .i8 t1455, .int .i8 t1456, .int .i8 t1457, .int .i8 t1458, .int .i8 t1459, .int .i8 t1460, .int .i8 t1461, .int .i8 t1462, .int .i8 t1463, .int .i8 t1464, .slice Ao103 t1465.length co103]] (by rfl) rfl rfl (by (try simp only [List.map_toArray, List.map_cons, List.map_nil]); first | done | rfl | (simp only [List.length_drop, List.length_take]; rfl)) ?_
          with_reducible refine (laws_eqFace.calls t1397 t1398 t1399 t1400 t1401 t1402 t1403 t1404 t1405 t1406 t1407 t1408 t1409 t1410 t1411 t1412 t1413 t1414 t1415 t1416 t1417 t1418 t1419 t1420 t1421 t1422 t1423 t1424 _ _ t1425 t1437 t1438 t1439 t1440 t1441 t1442 t1443 t1444 t1445 t1446 t1447 t1448 t1449 t1450 t1451 t1452 t1453 t1454 t1455 t1456 t1457 t1458 t1459 t1460 t1461 t1462 t1463 t1464 _ _ t1465 true _ ?side1 ?side2 ?side3 ?side4 A48.out).mono ?_
          (case side1 => repeat (first | exact (Kd.R_reads' HO_1429028.out).2.2 | (with_reducible refine Kd.C_alloc ?_ _) | (with_reducible refine Kd.C_drewN ?_ _) | (with_reducible refine Kd.C_drew ?_)))
          (case side2 => exact (Kd.R_reads' HO_1429028.out).2.1)
          (case side3 => repeat (first | exact (Kd.R_reads' HO1467.out).2.2 | (with_reducible refine Kd.C_alloc ?_ _) | (with_reducible refine Kd.C_drewN ?_ _) | (with_reducible refine Kd.C_drew ?_)))
          (case side4 => exact (Kd.R_reads' HO1467.out).2.1)
          rintro e w104 ⟨rfl, hb⟩
          refine ⟨_, rfl, ?_⟩
          have n0_ := Aside0.mk (Kd.R_below (by (with_reducible repeat (first | apply Kd.R_alloc | apply Kd.R_drewN | apply Kd.R_drew)); exact HO_14.out) hb)
          have n1_ := Aside0.mk (Kd.R_below (by (with_reducible repeat (first | apply Kd.R_alloc | apply Kd.R_drewN | apply Kd.R_drew)); exact HO_17.out) hb)
          have n2_ := Aside0.mk (Kd.R_below (by (with_reducible repeat (first | apply Kd.R_alloc | apply Kd.R_drewN | apply Kd.R_drew)); exact HO_18.out) hb)
          have n3_ := Aside0.mk (Kd.R_below (by (with_reducible repeat (first | apply Kd.R_alloc | apply Kd.R_drewN | apply Kd.R_drew)); exact HO_1429028.out) hb)
          have n4_ := Aside0.mk (Kd.R_below (by (with_reducible repeat (first | apply Kd.R_alloc | apply Kd.R_drewN | apply Kd.R_drew)); exact HO1467.out) hb)
          have n5_ := Aside0.mk (blk_below (g := gb1356) (o := .cells #[.int .i8 F0, .int .i8 F1, .int .i8 F2, .int .i8 F3, .int .i8 F4, .int .i8 F5, .int .i8 F6, .int .i8 F7, .int .i8 F8, .int .i8 F9, .int .i8 F10, .int .i8 F11, .int .i8 F12, .int .i8 F13, .int .i8 F14, .int .i8 F15, .int .i8 F16, .int .i8 F17, .int .i8 F18, .int .i8 F19, .int .i8 F20, .int .i8 F21, .int .i8 F22, .int .i8 F23, .int .i8 F24, .int .i8 F25, .int .i8 F26, .int .i8 F27, .slice A0_28 l0_28.length c0_28] 26 (0, 0)) (by (with_reducible repeat (first | refine blk_drewN ?_ _ | refine blk_drew ?_ | refine blk_alloc ?_ _)); exact BK1356.out) hb)
          have n6_ := Aside0.mk (blk_below (g := gb1428) (o := .cells #[.int .i8 t1397, .int .i8 t1398, .int .i8 t1399, .int .i8 t1400, .int .i8 t1401, .int .i8 t1402, .int .i8 t1403, .int .i8 t1404, .int .i8 t1405, .int .i8 t1406, .int .i8 t1407, .int .i8 t1408, .int .i8 t1409, .int .i8 t1410, .int .i8 t1411, .int .i8 t1412, .int .i8 t1413, .int .i8 t1414, .int .i8 t1415, .int .i8 t1416, .int .i8 t1417, .int .i8 t1418, .int .i8 t1419, .int .i8 t1420, .int .i8 t1421, .int .i8 t1422, .int .i8 t1423, .int .i8 t1424, .slice Ao35 t1425.length co35] 32 (0, 0)) (by (with_reducible repeat (first | refine blk_drewN ?_ _ | refine blk_drew ?_ | refine blk_alloc ?_ _)); exact BK1428.out) hb)
          have n7_ := Aside0.mk (below_step (by repeat (first | (with_reducible first | exact HB.out | apply bwA | apply pwN | apply bw1 | refine below_set ?_ GE1356.out | refine below_set ?_ GE1428.out) | exact HB.out)) hb)
          clear HO_14
          clear HO_17
          clear HO_18
          clear HO_1429028
          clear HO1467
          clear BK1356
          clear BK1428
          clear HB
          have HO_14 := n0_
          have HO_17 := n1_
          have HO_18 := n2_
          have HO_1429028 := n3_
          have HO1467 := n4_
          have BK1356 := n5_
          have BK1428 := n6_
          have HB := n7_
          clear n0_ n1_ n2_ n3_ n4_ n5_ n6_ n7_
          (try clear hb)
          (try clear hb2)
          (try clear hk)
          (try clear hi)
          refine hK.out _ _ ⟨BK1428.out, BK1356.out⟩ (fun hHeld => ?_)
          clear hK K
          refine norm_ (a' := ?_) ?_ ?_
          rotate_left
          ·show Act.put _ (some 79) _ = _
           simp only [Act.put, List.setIfInBounds_toArray, List.set_cons_zero, List.set_cons_succ, i64_w, i32_w, u8_w_]
           rfl
          refine pure_ (i := 4) (N := some 80) (v := ?_) (a' := ?_) #[true, true, true, true, true] rfl rfl (by kernel_rfl) (fun _ _ _ h => h) (Or.inl ⟨by rfl, ?_⟩) ?_ ?_
          rotate_left
          ·intro w'
           go_simp
           with_reducible rfl
          rotate_left
          ·simp only [Act.put, List.setIfInBounds_toArray, List.set_cons_zero, List.set_cons_succ, i64_w, i32_w, u8_w_]
           rfl
          refine done_ (by kernel_rfl) ?_
          try go_wp2_with (first | ((with_reducible refine gate_callee (f := 41) rfl ?_); refine goesL_ (some 83) rfl rfl Tryd.func41 (by kernel_rfl) rfl #[.slice A3 l3.length c3] rfl (by (try simp only [List.map_toArray, List.map_cons, List.map_nil]); first | done | rfl | (simp only [List.length_drop, List.length_take]; rfl)) ?_; (with_reducible refine (laws_toStringS.calls kj24 _ _ l3 t1469 _ ?side1 ?side2 A50.out).mono ?_); (case side1 => repeat (first | exact (Kd.C_below HR3.out HB.out) | (with_reducible refine Kd.C_alloc ?_ _) | (with_reducible refine Kd.C_drewN ?_ _) | (with_reducible refine Kd.C_drew ?_))); (case side2 => exact HC3.out); rintro e w105 ⟨v1470, rfl, ho0, hb⟩; refine ⟨_, rfl, ?_⟩; have n0_ := Aside0.mk (Kd.R_below (by (with_reducible repeat (first | apply Kd.R_alloc | apply Kd.R_drewN | apply Kd.R_drew)); exact HO_14.out) hb); have n1_ := Aside0.mk (Kd.R_elder' (by (with_reducible repeat (first | apply Kd.R_alloc | apply Kd.R_drewN | apply Kd.R_drew)); exact HO_17.out) (Kd.R_base ho0) hb); have n2_ := Aside0.mk (Kd.R_below (by (with_reducible repeat (first | apply Kd.R_alloc | apply Kd.R_drewN | apply Kd.R_drew)); exact HO_18.out) hb); have n3_ := Aside0.mk (Kd.R_below (by (with_reducible repeat (first | apply Kd.R_alloc | apply Kd.R_drewN | apply Kd.R_drew)); exact HO_1429028.out) hb); have n4_ := Aside0.mk (Kd.R_below (by (with_reducible repeat (first | apply Kd.R_alloc | apply Kd.R_drewN | apply Kd.R_drew)); exact HO1467.out) hb); have n5_ := Aside0.mk (Kd.R_lower (Kd.R_new' ho0 (Kd.R_lt (by (with_reducible repeat (first | apply Kd.R_alloc | apply Kd.R_drewN | apply Kd.R_drew)); exact HO_17.out))) (below_size (by repeat (first | (with_reducible first | exact HB.out | apply bwA | apply pwN | apply bw1 | refine below_set ?_ GE1356.out | refine below_set ?_ GE1428.out) | exact HB.out)))); have n6_ := Aside0.mk (blk_below (g := gb1356) (o := .cells #[.int .i8 F0, .int .i8 F1, .int .i8 F2, .int .i8 F3, .int .i8 F4, .int .i8 F5, .int .i8 F6, .int .i8 F7, .int .i8 F8, .int .i8 F9, .int .i8 F10, .int .i8 F11, .int .i8 F12, .int .i8 F13, .int .i8 F14, .int .i8 F15, .int .i8 F16, .int .i8 F17, .int .i8 F18, .int .i8 F19, .int .i8 F20, .int .i8 F21, .int .i8 F22, .int .i8 F23, .int .i8 F24, .int .i8 F25, .int .i8 F26, .int .i8 F27, .slice A0_28 l0_28.length c0_28] 26 (0, 0)) (by (with_reducible repeat (first | refine blk_drewN ?_ _ | refine blk_drew ?_ | refine blk_alloc ?_ _)); exact BK1356.out) hb); have n7_ := Aside0.mk (blk_below (g := gb1428) (o := .cells #[.int .i8 t1397, .int .i8 t1398, .int .i8 t1399, .int .i8 t1400, .int .i8 t1401, .int .i8 t1402, .int .i8 t1403, .int .i8 t1404, .int .i8 t1405, .int .i8 t1406, .int .i8 t1407, .int .i8 t1408, .int .i8 t1409, .int .i8 t1410, .int .i8 t1411, .int .i8 t1412, .int .i8 t1413, .int .i8 t1414, .int .i8 t1415, .int .i8 t1416, .int .i8 t1417, .int .i8 t1418, .int .i8 t1419, .int .i8 t1420, .int .i8 t1421, .int .i8 t1422, .int .i8 t1423, .int .i8 t1424, .slice Ao35 t1425.length co35] 32 (0, 0)) (by (with_reducible repeat (first | refine blk_drewN ?_ _ | refine blk_drew ?_ | refine blk_alloc ?_ _)); exact BK1428.out) hb); have n8_ := Aside0.mk (below_step (by repeat (first | (with_reducible first | exact HB.out | apply bwA | apply pwN | apply bw1 | refine below_set ?_ GE1356.out | refine below_set ?_ GE1428.out) | exact HB.out)) hb); clear HO_14; clear HO_17; clear HO_18; clear HO_1429028; clear HO1467; clear BK1356; clear BK1428; clear HB; have HO_14 := n0_; have HO_17 := n1_; have HO_18 := n2_; have HO_1429028 := n3_; have HO1467 := n4_; have HO1471 := n5_; have BK1356 := n6_; have BK1428 := n7_; have HB := n8_; clear n0_ n1_ n2_ n3_ n4_ n5_ n6_ n7_ n8_; (try clear hb); (try clear hb2); (try clear hk); (try clear hi); (try clear ho0); obtain ⟨Ao106, co106, eo106⟩ := Kd.R_slice HO1471.out; subst eo106) | ((with_reducible refine gate_callee (f := 43) rfl ?_); refine goesL_ (some 84) rfl rfl Tryd.func43 (by kernel_rfl) rfl #[.slice Ao38 t1429.length co38, .slice Ao106 t1469.length co106] rfl (by (try simp only [List.map_toArray, List.map_cons, List.map_nil]); first | done | rfl | (simp only [List.length_drop, List.length_take]; rfl)) ?_; (with_reducible refine (laws_eqStringS.calls kj24 _ _ t1429 _ _ t1469 false _ ?side1 ?side2 ?side3 ?side4 A51.out).mono ?_); (case side1 => repeat (first | exact (Kd.R_reads' HO_17.out).2.2 | (with_reducible refine Kd.C_alloc ?_ _) | (with_reducible refine Kd.C_drewN ?_ _) | (with_reducible refine Kd.C_drew ?_))); (case side2 => exact (Kd.R_reads' HO_17.out).2.1); (case side3 => repeat (first | exact (Kd.R_reads' HO1471.out).2.2 | (with_reducible refine Kd.C_alloc ?_ _) | (with_reducible refine Kd.C_drewN ?_ _) | (with_reducible refine Kd.C_drew ?_))); (case side4 => exact (Kd.R_reads' HO1471.out).2.1); rintro e w' ⟨rfl, ⟨nd, rfl⟩⟩; refine ⟨_, rfl, ?_⟩))
          go_ret
          exact ⟨by first | rfl | (simp [errW_none, errW_some] <;> rfl) | (simp [*, errW_none, errW_some] <;> rfl), by repeat (first | (with_reducible first | exact HB.out | apply bwA | apply pwN | apply bw1 | refine below_set ?_ GE1356.out | refine below_set ?_ GE1428.out) | exact HB.out)⟩
        ·replace c49 := Bool.eq_false_iff.mpr c49
         subst c49
         rw [if_neg (show ¬ (false = true) by decide)] at H
         have H1 := H
         clear H
         have H := H1
         clear H1
         obtain rfl := Option.some.inj H
         try go_wp2
         have n0_ := Aside0.mk (Kd.R_drew HO_14.out)
         have n1_ := Aside0.mk (Kd.R_drew HO_17.out)
         have n2_ := Aside0.mk (Kd.R_drew HO_18.out)
         have n3_ := Aside0.mk (Kd.R_drew HO_1429028.out)
         have n4_ := Aside0.mk (blk_drew BK1356.out)
         have n5_ := Aside0.mk (blk_drew BK1428.out)
         have n6_ := Aside0.mk (bw1 HB.out)
         clear HO_14
         clear HO_17
         clear HO_18
         clear HO_1429028
         clear BK1356
         clear BK1428
         clear HB
         have HO_14 := n0_
         have HO_17 := n1_
         have HO_18 := n2_
         have HO_1429028 := n3_
         have BK1356 := n4_
         have BK1428 := n5_
         have HB := n6_
         clear n0_ n1_ n2_ n3_ n4_ n5_ n6_
         refine start_ (n := 5) (S := fun w' => w'.heap[gb1428]? = some (.cells #[.int .i8 t1397, .int .i8 t1398, .int .i8 t1399, .int .i8 t1400, .int .i8 t1401, .int .i8 t1402, .int .i8 t1403, .int .i8 t1404, .int .i8 t1405, .int .i8 t1406, .int .i8 t1407, .int .i8 t1408, .int .i8 t1409, .int .i8 t1410, .int .i8 t1411, .int .i8 t1412, .int .i8 t1413, .int .i8 t1414, .int .i8 t1415, .int .i8 t1416, .int .i8 t1417, .int .i8 t1418, .int .i8 t1419, .int .i8 t1420, .int .i8 t1421, .int .i8 t1422, .int .i8 t1423, .int .i8 t1424, .slice Ao35 t1425.length co35] 32 (0, 0)) ∧ w'.heap[gb1356]? = some (.cells #[.int .i8 F0, .int .i8 F1, .int .i8 F2, .int .i8 F3, .int .i8 F4, .int .i8 F5, .int .i8 F6, .int .i8 F7, .int .i8 F8, .int .i8 F9, .int .i8 F10, .int .i8 F11, .int .i8 F12, .int .i8 F13, .int .i8 F14, .int .i8 F15, .int .i8 F16, .int .i8 F17, .int .i8 F18, .int .i8 F19, .int .i8 F20, .int .i8 F21, .int .i8 F22, .int .i8 F23, .int .i8 F24, .int .i8 F25, .int .i8 F26, .int .i8 F27, .slice A0_28 l0_28.length c0_28] 26 (0, 0))) (ds := []) #[false, false, false, false, false] (by kernel_rfl) rfl rfl ⟨BK1428.out, BK1356.out⟩ (fun hHeld => ?_)
         generalize wc.drew = w107 at HO_14 HO_17 HO_18 HO_1429028 BK1356 BK1428 HB hHeld ⊢
         refine take_ (i := 0) (N := some 76) (v := ?_) (a' := ?_) #[true, false, false, false, false] rfl rfl (by kernel_rfl) (fun _ _ _ h => h) (Or.inl ⟨by rfl, ?_⟩) hHeld ?_ ?_
         rotate_left
         ·rintro w' ⟨s0, s1⟩
          refine exec_load_partx_ 32 (.tmp 16) _ 0 [] [.int .i8 t1397, .int .i8 t1398, .int .i8 t1399, .int .i8 t1400, .int .i8 t1401, .int .i8 t1402, .int .i8 t1403, .int .i8 t1404, .int .i8 t1405, .int .i8 t1406, .int .i8 t1407, .int .i8 t1408, .int .i8 t1409, .int .i8 t1410, .int .i8 t1411, .int .i8 t1412, .int .i8 t1413, .int .i8 t1414, .int .i8 t1415, .int .i8 t1416, .int .i8 t1417, .int .i8 t1418, .int .i8 t1419, .int .i8 t1420, .int .i8 t1421, .int .i8 t1422, .int .i8 t1423, .int .i8 t1424, .slice Ao35 t1425.length co35] [] rfl s0 ?_ ?_ Tryd.underlying32 rfl (by exact (show (Tryd.prog.info? 32).map (·.size) = some 29 by kernel_rfl))
          ·rfl
          ·rfl
         rotate_left
         ·simp only [Act.put, List.setIfInBounds_toArray, List.set_cons_zero, List.set_cons_succ, i64_w, i32_w, u8_w_]
          rfl
         refine take_ (i := 1) (N := some 77) (v := ?_) (a' := ?_) #[true, true, false, false, false] rfl rfl (by kernel_rfl) (fun _ _ _ h => h) (Or.inl ⟨by rfl, ?_⟩) hHeld ?_ ?_
         rotate_left
         ·rintro w' ⟨s0, s1⟩
          refine exec_load_partx_ 26 (.tmp 6) _ 0 [] [.int .i8 F0, .int .i8 F1, .int .i8 F2, .int .i8 F3, .int .i8 F4, .int .i8 F5, .int .i8 F6, .int .i8 F7, .int .i8 F8, .int .i8 F9, .int .i8 F10, .int .i8 F11, .int .i8 F12, .int .i8 F13, .int .i8 F14, .int .i8 F15, .int .i8 F16, .int .i8 F17, .int .i8 F18, .int .i8 F19, .int .i8 F20, .int .i8 F21, .int .i8 F22, .int .i8 F23, .int .i8 F24, .int .i8 F25, .int .i8 F26, .int .i8 F27, .slice A0_28 l0_28.length c0_28] [] rfl s1 ?_ ?_ Tryd.underlying26 rfl (by exact (show (Tryd.prog.info? 26).map (·.size) = some 29 by kernel_rfl))
          ·rfl
          ·rfl
         rotate_left
         ·simp only [Act.put, List.setIfInBounds_toArray, List.set_cons_zero, List.set_cons_succ, i64_w, i32_w, u8_w_]
          rfl
         refine one_ (i := 2) (N := some 78) #[true, true, true, false, false] rfl rfl (by kernel_rfl) (by decide) (fun K hK => ?_)
         refine goes_ Tryd.func20 (by kernel_rfl) rfl #[.agg #[.int .i8 F0, .int .i8 F1, .int .i8 F2, .int .i8 F3, .int .i8 F4, .int .i8 F5, .int .i8 F6, .int .i8 F7, .int .i8 F8, .int .i8 F9, .int .i8 F10, .int .i8 F11, .int .i8 F12, .int .i8 F13, .int .i8 F14, .int .i8 F15, .int .i8 F16, .int .i8 F17, .int .i8 F18, .int .i8 F19, .int .i8 F20, .int .i8 F21, .int .i8 F22, .int .i8 F23, .int .i8 F24, .int .i8 F25, .int .i8 F26, .int .i8 F27, .slice A0_28 l0_28.length c0_28]] (by rfl) rfl rfl (by (try simp only [List.map_toArray, List.map_cons, List.map_nil]); first | done | rfl | (simp only [List.length_drop, List.length_take]; rfl)) ?_
         with_reducible refine (laws_toFace.calls F0 F1 F2 F3 F4 F5 F6 F7 F8 F9 F10 F11 F12 F13 F14 F15 F16 F17 F18 F19 F20 F21 F22 F23 F24 F25 F26 F27 _ _ l0_28 t1437 t1438 t1439 t1440 t1441 t1442 t1443 t1444 t1445 t1446 t1447 t1448 t1449 t1450 t1451 t1452 t1453 t1454 t1455 t1456 t1457 t1458 t1459 t1460 t1461 t1462 t1463 t1464 t1465 _ ?side1 ?side2 A47.out).mono ?_
         (case side1 => repeat (first | exact (Kd.C_below HR0_28.out HB.out) | (with_reducible refine Kd.C_alloc ?_ _) | (with_reducible refine Kd.C_drewN ?_ _) | (with_reducible refine Kd.C_drew ?_)))
         (case side2 => exact HC0_28.out)
         rintro e w108 ⟨v1466, rfl, ho0, hb⟩
         refine ⟨_, rfl, ?_⟩
         have n0_ := Aside0.mk (Kd.R_below (by (with_reducible repeat (first | apply Kd.R_alloc | apply Kd.R_drewN | apply Kd.R_drew)); exact HO_14.out) hb)
         have n1_ := Aside0.mk (Kd.R_below (by (with_reducible repeat (first | apply Kd.R_alloc | apply Kd.R_drewN | apply Kd.R_drew)); exact HO_17.out) hb)
         have n2_ := Aside0.mk (Kd.R_below (by (with_reducible repeat (first | apply Kd.R_alloc | apply Kd.R_drewN | apply Kd.R_drew)); exact HO_18.out) hb)
         have n3_ := Aside0.mk (Kd.R_elder' (by (with_reducible repeat (first | apply Kd.R_alloc | apply Kd.R_drewN | apply Kd.R_drew)); exact HO_1429028.out) (Kd.R_base ho0) hb)
         have n4_ := Aside0.mk (Kd.R_lower (Kd.R_new' ho0 (Kd.R_lt (by (with_reducible repeat (first | apply Kd.R_alloc | apply Kd.R_drewN | apply Kd.R_drew)); exact HO_1429028.out))) (below_size (by repeat (first | (with_reducible first | exact HB.out | apply bwA | apply pwN | apply bw1 | refine below_set ?_ GE1356.out | refine below_set ?_ GE1428.out) | exact HB.out))))
         have n5_ := Aside0.mk (blk_below (g := gb1356) (o := .cells #[.int .i8 F0, .int .i8 F1, .int .i8 F2, .int .i8 F3, .int .i8 F4, .int .i8 F5, .int .i8 F6, .int .i8 F7, .int .i8 F8, .int .i8 F9, .int .i8 F10, .int .i8 F11, .int .i8 F12, .int .i8 F13, .int .i8 F14, .int .i8 F15, .int .i8 F16, .int .i8 F17, .int .i8 F18, .int .i8 F19, .int .i8 F20, .int .i8 F21, .int .i8 F22, .int .i8 F23, .int .i8 F24, .int .i8 F25, .int .i8 F26, .int .i8 F27, .slice A0_28 l0_28.length c0_28] 26 (0, 0)) (by (with_reducible repeat (first | refine blk_drewN ?_ _ | refine blk_drew ?_ | refine blk_alloc ?_ _)); exact BK1356.out) hb)
         have n6_ := Aside0.mk (blk_below (g := gb1428) (o := .cells #[.int .i8 t1397, .int .i8 t1398, .int .i8 t1399, .int .i8 t1400, .int .i8 t1401, .int .i8 t1402, .int .i8 t1403, .int .i8 t1404, .int .i8 t1405, .int .i8 t1406, .int .i8 t1407, .int .i8 t1408, .int .i8 t1409, .int .i8 t1410, .int .i8 t1411, .int .i8 t1412, .int .i8 t1413, .int .i8 t1414, .int .i8 t1415, .int .i8 t1416, .int .i8 t1417, .int .i8 t1418, .int .i8 t1419, .int .i8 t1420, .int .i8 t1421, .int .i8 t1422, .int .i8 t1423, .int .i8 t1424, .slice Ao35 t1425.length co35] 32 (0, 0)) (by (with_reducible repeat (first | refine blk_drewN ?_ _ | refine blk_drew ?_ | refine blk_alloc ?_ _)); exact BK1428.out) hb)
         have n7_ := Aside0.mk (below_step (by repeat (first | (with_reducible first | exact HB.out | apply bwA | apply pwN | apply bw1 | refine below_set ?_ GE1356.out | refine below_set ?_ GE1428.out) | exact HB.out)) hb)
         clear HO_14
         clear HO_17
         clear HO_18
         clear HO_1429028
         clear BK1356
         clear BK1428
         clear HB
         have HO_14 := n0_
         have HO_17 := n1_
         have HO_18 := n2_
         have HO_1429028 := n3_
         have HO1467 := n4_
         have BK1356 := n5_
         have BK1428 := n6_
         have HB := n7_
         clear n0_ n1_ n2_ n3_ n4_ n5_ n6_ n7_
         (try clear hb)
         (try clear hb2)
         (try clear hk)
         (try clear hi)
         (try clear ho0)
         obtain ⟨Ao109, co109, eo109⟩ := Kd.R_slice HO1467.out
         (first | subst eo109 | (injection eo109 with f1_ f2_ f3_; have f4_ := f1_.symm; have f5_ := f3_.symm; clear f1_ f2_ f3_; subst f4_; subst f5_))
         refine hK.out _ _ ⟨BK1428.out, BK1356.out⟩ (fun hHeld => ?_)
         clear hK K
         refine norm_ (a' := ?_) ?_ ?_
         rotate_left
         ·show Act.put _ (some 78) _ = _
          simp only [Act.put, List.setIfInBounds_toArray, List.set_cons_zero, List.set_cons_succ, i64_w, i32_w, u8_w_]
          rfl
         refine one_ (i := 3) (N := some 79) #[true, true, true, true, false] rfl rfl (by kernel_rfl) (by decide) (fun K hK => ?_)
         refine goes_ Tryd.func22 (by kernel_rfl) rfl #[.agg #[.int .i8 t1397, .int .i8 t1398, .int .i8 t1399, .int .i8 t1400, .int .i8 t1401, .int .i8 t1402, .int .i8 t1403, .int .i8 t1404, .int .i8 t1405, .int .i8 t1406, .int .i8 t1407, .int .i8 t1408, .int .i8 t1409, .int .i8 t1410, .int .i8 t1411, .int .i8 t1412, .int .i8 t1413, .int .i8 t1414, .int .i8 t1415, .int .i8 t1416, .int .i8 t1417, .int .i8 t1418, .int .i8 t1419, .int .i8 t1420, .int .i8 t1421, .int .i8 t1422, .int .i8 t1423, .int .i8 t1424, .slice Ao35 t1425.length co35], .agg #[.int .i8 t1437, .int .i8 t1438, .int .i8 t1439, .int .i8 t1440, .int .i8 t1441, .int .i8 t1442, .int .i8 t1443, .int .i8 t1444, .int .i8 t1445, .int .i8 t1446, .int .i8 t1447, .int .i8 t1448, .int .i8 t1449, .int .i8 t1450, .int .i8 t1451, .int .i8 t1452, .int .i8 t1453, .int .i8 t1454, .int .i8 t1455, .int .i8 t1456, .int .i8 t1457, .int .i8 t1458, .int .i8 t1459, .int .i8 t1460, .int .i8 t1461, .int .i8 t1462, .int .i8 t1463, .int .i8 t1464, .slice Ao109 t1465.length co109]] (by rfl) rfl rfl (by (try simp only [List.map_toArray, List.map_cons, List.map_nil]); first | done | rfl | (simp only [List.length_drop, List.length_take]; rfl)) ?_
         with_reducible refine (laws_eqFace.calls t1397 t1398 t1399 t1400 t1401 t1402 t1403 t1404 t1405 t1406 t1407 t1408 t1409 t1410 t1411 t1412 t1413 t1414 t1415 t1416 t1417 t1418 t1419 t1420 t1421 t1422 t1423 t1424 _ _ t1425 t1437 t1438 t1439 t1440 t1441 t1442 t1443 t1444 t1445 t1446 t1447 t1448 t1449 t1450 t1451 t1452 t1453 t1454 t1455 t1456 t1457 t1458 t1459 t1460 t1461 t1462 t1463 t1464 _ _ t1465 false _ ?side1 ?side2 ?side3 ?side4 A48.out).mono ?_
         (case side1 => repeat (first | exact (Kd.R_reads' HO_1429028.out).2.2 | (with_reducible refine Kd.C_alloc ?_ _) | (with_reducible refine Kd.C_drewN ?_ _) | (with_reducible refine Kd.C_drew ?_)))
         (case side2 => exact (Kd.R_reads' HO_1429028.out).2.1)
         (case side3 => repeat (first | exact (Kd.R_reads' HO1467.out).2.2 | (with_reducible refine Kd.C_alloc ?_ _) | (with_reducible refine Kd.C_drewN ?_ _) | (with_reducible refine Kd.C_drew ?_)))
         (case side4 => exact (Kd.R_reads' HO1467.out).2.1)
         rintro e w110 ⟨rfl, hb⟩
         refine ⟨_, rfl, ?_⟩
         have n0_ := Aside0.mk (Kd.R_below (by (with_reducible repeat (first | apply Kd.R_alloc | apply Kd.R_drewN | apply Kd.R_drew)); exact HO_14.out) hb)
         have n1_ := Aside0.mk (Kd.R_below (by (with_reducible repeat (first | apply Kd.R_alloc | apply Kd.R_drewN | apply Kd.R_drew)); exact HO_17.out) hb)
         have n2_ := Aside0.mk (Kd.R_below (by (with_reducible repeat (first | apply Kd.R_alloc | apply Kd.R_drewN | apply Kd.R_drew)); exact HO_18.out) hb)
         have n3_ := Aside0.mk (Kd.R_below (by (with_reducible repeat (first | apply Kd.R_alloc | apply Kd.R_drewN | apply Kd.R_drew)); exact HO_1429028.out) hb)
         have n4_ := Aside0.mk (Kd.R_below (by (with_reducible repeat (first | apply Kd.R_alloc | apply Kd.R_drewN | apply Kd.R_drew)); exact HO1467.out) hb)
         have n5_ := Aside0.mk (blk_below (g := gb1356) (o := .cells #[.int .i8 F0, .int .i8 F1, .int .i8 F2, .int .i8 F3, .int .i8 F4, .int .i8 F5, .int .i8 F6, .int .i8 F7, .int .i8 F8, .int .i8 F9, .int .i8 F10, .int .i8 F11, .int .i8 F12, .int .i8 F13, .int .i8 F14, .int .i8 F15, .int .i8 F16, .int .i8 F17, .int .i8 F18, .int .i8 F19, .int .i8 F20, .int .i8 F21, .int .i8 F22, .int .i8 F23, .int .i8 F24, .int .i8 F25, .int .i8 F26, .int .i8 F27, .slice A0_28 l0_28.length c0_28] 26 (0, 0)) (by (with_reducible repeat (first | refine blk_drewN ?_ _ | refine blk_drew ?_ | refine blk_alloc ?_ _)); exact BK1356.out) hb)
         have n6_ := Aside0.mk (blk_below (g := gb1428) (o := .cells #[.int .i8 t1397, .int .i8 t1398, .int .i8 t1399, .int .i8 t1400, .int .i8 t1401, .int .i8 t1402, .int .i8 t1403, .int .i8 t1404, .int .i8 t1405, .int .i8 t1406, .int .i8 t1407, .int .i8 t1408, .int .i8 t1409, .int .i8 t1410, .int .i8 t1411, .int .i8 t1412, .int .i8 t1413, .int .i8 t1414, .int .i8 t1415, .int .i8 t1416, .int .i8 t1417, .int .i8 t1418, .int .i8 t1419, .int .i8 t1420, .int .i8 t1421, .int .i8 t1422, .int .i8 t1423, .int .i8 t1424, .slice Ao35 t1425.length co35] 32 (0, 0)) (by (with_reducible repeat (first | refine blk_drewN ?_ _ | refine blk_drew ?_ | refine blk_alloc ?_ _)); exact BK1428.out) hb)
         have n7_ := Aside0.mk (below_step (by repeat (first | (with_reducible first | exact HB.out | apply bwA | apply pwN | apply bw1 | refine below_set ?_ GE1356.out | refine below_set ?_ GE1428.out) | exact HB.out)) hb)
         clear HO_14
         clear HO_17
         clear HO_18
         clear HO_1429028
         clear HO1467
         clear BK1356
         clear BK1428
         clear HB
         have HO_14 := n0_
         have HO_17 := n1_
         have HO_18 := n2_
         have HO_1429028 := n3_
         have HO1467 := n4_
         have BK1356 := n5_
         have BK1428 := n6_
         have HB := n7_
         clear n0_ n1_ n2_ n3_ n4_ n5_ n6_ n7_
         (try clear hb)
         (try clear hb2)
         (try clear hk)
         (try clear hi)
         refine hK.out _ _ ⟨BK1428.out, BK1356.out⟩ (fun hHeld => ?_)
         clear hK K
         refine norm_ (a' := ?_) ?_ ?_
         rotate_left
         ·show Act.put _ (some 79) _ = _
          simp only [Act.put, List.setIfInBounds_toArray, List.set_cons_zero, List.set_cons_succ, i64_w, i32_w, u8_w_]
          rfl
         refine pure_ (i := 4) (N := some 80) (v := ?_) (a' := ?_) #[true, true, true, true, true] rfl rfl (by kernel_rfl) (fun _ _ _ h => h) (Or.inl ⟨by rfl, ?_⟩) ?_ ?_
         rotate_left
         ·intro w'
          go_simp
          with_reducible rfl
         rotate_left
         ·simp only [Act.put, List.setIfInBounds_toArray, List.set_cons_zero, List.set_cons_succ, i64_w, i32_w, u8_w_]
          rfl
         refine done_ (by kernel_rfl) ?_
         try go_wp2
         go_ret
         exact ⟨by first | rfl | (simp [errW_none, errW_some] <;> rfl) | (simp [*, errW_none, errW_some] <;> rfl), by repeat (first | (with_reducible first | exact HB.out | apply bwA | apply pwN | apply bw1 | refine below_set ?_ GE1356.out | refine below_set ?_ GE1428.out) | exact HB.out)⟩
end Go.Proofs.YticjkfacdmmopaaDoor.Q
namespace Go.Proofs.YticjkfacdmmopaaDoor.Pure
open Go.RowKit Go.Proofs.YticjkfacdmmopaaDoor.Ext Go.Proofs.YticjkfacdmmopaaDoor.Q Go.Proofs.YticjkfacdmmopaaDoor.Txt Go.Proofs.YticjkfacdmmopaaDoor.Face Go.Proofs.YticjkfacdmmopaaDoorW.PrintWords Go.Proofs.YticjkfacdmmopaaDoorW.PrintLast Go.Proofs.YticjkfacdmmopaaDoorW.PrintMore
set_option linter.unusedVariables false
set_option linter.unusedSimpArgs false
set_option maxRecDepth 100000
theorem markText_l0 : ∀ (d k : Nat) (x : Int) (s : ByteArray), 0 ≤ x → x < 10 ^ d → x ≤ 9223372036854775807 → d < k → s.size + d ≤ 1000 → ∃ t, laws_markText.l0 k x s = some t
 | 0, k, x, s, h0, h1, h9, hk, hs => by
  obtain ⟨k, rfl⟩ := some_k hk
  rw [Int.pow_zero] at h1
  rw [laws_markText.l0, if_neg (by omega), if_pos (by omega)]
  exact ⟨_, rfl⟩
 | d + 1, k, x, s, h0, h1, h9, hk, hs => by
  obtain ⟨k, rfl⟩ := some_k hk
  rw [laws_markText.l0]
  by_cases hx : x > 0
  ·rw [Int.pow_succ] at h1
   have hd : x.tdiv 10 = x / 10 := Int.tdiv_eq_ediv_of_nonneg h0
   have h2 : x / 10 < 10 ^ d := Int.ediv_lt_of_lt_mul (by omega) (by omega)
   have hsz : ∀ y : Int, (strOfNums [y]).size = 1 := fun y => rfl
   rw [if_pos hx, Option.bind_some, if_pos (by rw [hsz]; omega), hd, w64 (x := x / 10) (by omega) (by omega)]
   exact markText_l0 d k (x / 10) _ (by omega) h2 (by omega) (by omega) (by rw [ByteArray.size_append, hsz]; omega)
  ·rw [if_neg hx, if_pos (by omega)]
   exact ⟨_, rfl⟩
theorem markText_eq (m : Int) (h0 : 0 ≤ m) (h1 : m < 100000000) {k : Nat} (hk : 8 < k) : ∃ t, laws_markText.f k m = some t := by
 unfold laws_markText.f
 by_cases h : m ≤ 0
 ·rw [if_pos h]; exact ⟨_, rfl⟩
 ·rw [if_neg h]
  exact markText_l0 8 k m _ h0 h1 (by omega) hk (by decide)
theorem markS_l0 : ∀ (d k n : Nat) (l : List ByteArray) (m : Int), n + d = l.length → d + 10 < k → l.length ≤ 1048576 → 0 ≤ m → m + d < 100000000 → ∃ l', laws_markStringS.l0 k l m n = some (m + d, l')
 | 0, k, n, l, m, hd, hk, hl, h0, h1 => by
  obtain ⟨k, rfl⟩ := some_k hk
  rw [laws_markStringS.l0, if_neg (by omega)]
  exact ⟨l, by simp⟩
 | d + 1, k, n, l, m, hd, hk, hl, h0, h1 => by
  obtain ⟨k, rfl⟩ := some_k hk
  obtain ⟨t, ht⟩ := markText_eq m h0 (by omega) (k := k) (by omega)
  rw [laws_markStringS.l0, if_pos (by omega), ht, Option.bind_some, if_pos (by omega), wrap_succ n (by omega), w64 (x := m + 1) (by omega) (by omega), show m + ((d + 1 : Nat) : Int) = m + 1 + d by omega]
  exact markS_l0 d k (n + 1) _ (m + 1) (by rw [List.length_set]; omega) (by omega) (by rw [List.length_set]; omega) (by omega) (by omega)
theorem markFace_eq2 (L : List Int) (P : List Pr) (hP : P.length ≤ 1048576) {k : Nat} (hk : 1048577 < k) : ∃ x, laws_markFace.f k (rd L 0) (rd L 1) (rd L 2) (rd L 3) (rd L 4) (rd L 5) (rd L 6) (rd L 7) (rd L 8) (rd L 9) (rd L 10) (rd L 11) (rd L 12) (rd L 13) (rd L 14) (rd L 15) (rd L 16) (rd L 17) (rd L 18) (rd L 19) (rd L 20) (rd L 21) (rd L 22) (rd L 23) (rd L 24) (rd L 25) (rd L 26) (rd L 27) P 1 = some x ∧ 0 ≤ x.1 ∧ x.1 ≤ 10000000 := by
 unfold laws_markFace.f laws_markPairS.f
 obtain ⟨P', h⟩ := markPairS_l0 P.length k 0 P 1 (by omega) (by omega) (by omega) (by omega) (by omega)
 rw [show ((0 : Nat) : Int) = 0 from rfl] at h
 rw [h, Option.bind_some]
 exact ⟨_, rfl, by simp only; omega, by simp only; omega⟩
theorem indL_drop (p : Int → Bool) (n : Nat) : ∀ (d i : Nat), i + d = n → indL p n = indL p i ++ ((List.range' i d).map (fun (j : Nat) => (j : Int))).filter p := by
 intro d i h
 subst h
 unfold indL
 rw [List.range_eq_range', List.range_eq_range', ← List.range'_append_1 (s := 0) (m := i) (n := d), List.map_append, List.filter_append, Nat.zero_add]
theorem sfill_l0 {L : List Int} {P : List Pr} (F : FaceOk L P) (a b : ByteArray) (ha : a.size ≤ 1048576) (hb : b.size ≤ 1048576) (l : List ByteArray) (hs : ∀ s ∈ l, s.size ≤ 1048576) (hn : l.length ≤ 1048576) (n m : Int) (h0 : 0 ≤ n) (h1 : n ≤ 4000) : ∀ (d k i : Nat) (acc : List Int), i + d = l.length → d + 3146000 < k → acc.length ≤ i →
  spec_FillWord.l0 k a b l n m acc i (rd L 0) (rd L 1) (rd L 2) (rd L 3) (rd L 4) (rd L 5) (rd L 6) (rd L 7) (rd L 8) (rd L 9) (rd L 10) (rd L 11) (rd L 12) (rd L 13) (rd L 14) (rd L 15) (rd L 16) (rd L 17) (rd L 18) (rd L 19) (rd L 20) (rd L 21) (rd L 22) (rd L 23) (rd L 24) (rd L 25) (rd L 26) (rd L 27) P = some (acc ++ ((List.range' i d).map (fun (j : Nat) => (j : Int))).filter (fun j => fitB L P a b n m (rdOf ByteArray.empty l j)), 0)
 | 0, k, i, acc, hd, hk, hacc => by
  obtain ⟨k, rfl⟩ := some_k hk
  rw [spec_FillWord.l0, if_neg (by omega)]
  simp
 | d + 1, k, i, acc, hd, hk, hacc => by
  obtain ⟨k, rfl⟩ := some_k hk
  have hi : i < l.length := by omega
  have hz := hs _ (List.getElem_mem hi)
  have hs1 : (a ++ l[i]).size = a.size + l[i].size := ByteArray.size_append
  have hs2 : ((a ++ l[i]) ++ b).size = a.size + l[i].size + b.size := by rw [ByteArray.size_append, ByteArray.size_append]
  have ih := fun acc h => sfill_l0 F a b ha hb l hs hn n m h0 h1 d k (i + 1) acc (by omega) (by omega) h
  rw [spec_FillWord.l0, if_pos (by omega), if_pos (by omega), rdOf_get l i hi, if_pos (by omega), if_pos (by omega), off_eq F _ (by omega) n h0 h1 (by omega), Option.bind_some, in_eq, Option.bind_some, inOff_eq F _ n m h0 h1, wrap_succ i (by omega), List.range'_succ, List.map_cons]
  have hfb : fitB L P a b n m (rdOf ByteArray.empty l (i : Int)) = (txt ((a ++ l[i]) ++ b).data.toList && decide (offV L P ((a ++ l[i]) ++ b) n ≤ m)) := by rw [rdOf_get l i hi]; rfl
  by_cases h : (txt ((a ++ l[i]) ++ b).data.toList && decide (offV L P ((a ++ l[i]) ++ b) n ≤ m)) = true
  ·rw [if_pos h, if_pos (by omega), ih _ (by rw [List.length_append, List.length_singleton]; omega), List.filter_cons_of_pos (by rw [hfb]; exact h), List.append_assoc]
   rfl
  ·rw [if_neg h, ih _ (by omega), List.filter_cons_of_neg (by rw [hfb]; exact h)]
theorem spec_FillWord_eq {L : List Int} {P : List Pr} (hl : L.length = 28) (hr : rngB L P = true) (a b : ByteArray) (ha : a.size ≤ 1048576) (hb : b.size ≤ 1048576) (l : List ByteArray) (hs : ∀ s ∈ l, s.size ≤ 1048576) (hn : l.length ≤ 1048576) (n m : Int) {k : Nat} (hk : 4194600 < k) : spec_FillWord.f k (rd L 0) (rd L 1) (rd L 2) (rd L 3) (rd L 4) (rd L 5) (rd L 6) (rd L 7) (rd L 8) (rd L 9) (rd L 10) (rd L 11) (rd L 12) (rd L 13) (rd L 14) (rd L 15) (rd L 16) (rd L 17) (rd L 18) (rd L 19) (rd L 20) (rd L 21) (rd L 22) (rd L 23) (rd L 24) (rd L 25) (rd L 26) (rd L 27) P a b l n m = some (fillWordC L P a b l n m) := by
 unfold spec_FillWord.f fillWordC
 rw [Option.bind_some, l04Asked_eq hl hr a b ha hb l hs hn n m (by omega), Option.bind_some]
 by_cases hz : gapC L P a b l n m = 0
 ·obtain ⟨hf, _, h0, h1⟩ := gapC_zero hz
  have h := sfill_l0 (faceOk hl hr hf) a b ha hb l hs hn n m h0.1 h0.2 l.length k 0 [] (by omega) (by omega) (by simp)
  rw [if_pos hz, if_pos hz, indL_drop _ l.length l.length 0 (by omega)]
  exact h
 ·rw [if_neg hz, if_neg hz]
theorem impl_FillWord_eq {L : List Int} {P : List Pr} (hl : L.length = 28) (hr : rngB L P = true) (a b : ByteArray) (ha : a.size ≤ 1048576) (hb : b.size ≤ 1048576) (l : List ByteArray) (hs : ∀ s ∈ l, s.size ≤ 1048576) (hn : l.length ≤ 1048576) (n m : Int) : impl_FillWord.f (rd L 0) (rd L 1) (rd L 2) (rd L 3) (rd L 4) (rd L 5) (rd L 6) (rd L 7) (rd L 8) (rd L 9) (rd L 10) (rd L 11) (rd L 12) (rd L 13) (rd L 14) (rd L 15) (rd L 16) (rd L 17) (rd L 18) (rd L 19) (rd L 20) (rd L 21) (rd L 22) (rd L 23) (rd L 24) (rd L 25) (rd L 26) (rd L 27) P a b l n m = some (fillWordC L P a b l n m) := by
 unfold impl_FillWord.f
 rw [all28 L hl, if_pos ⟨hr, ⟨ha, hb⟩, hn, List.all_eq_true.2 fun s h => by simpa using hs s h⟩]
theorem fillWordC_len (L : List Int) (P : List Pr) (a b : ByteArray) (l : List ByteArray) (n m : Int) : (fillWordC L P a b l n m).1.length ≤ l.length := by
 unfold fillWordC
 split
 ·exact indL_len _ _
 ·simp
theorem fillWord_law (L : List Int) (hl : L.length = 28) (lp : List LP) (hlp : lp.length ≤ 9223372036854775807) (hr : rngB L (lp.map toP) = true) (a b : ByteArray) (l : List ByteArray) (n m : Int) (hln : l.length ≤ 9223372036854775807) (hls : ∀ s ∈ l, s.size ≤ 9223372036854775807) : ∃ k, laws_FnExactFillWord.f k (rd L 0) (rd L 1) (rd L 2) (rd L 3) (rd L 4) (rd L 5) (rd L 6) (rd L 7) (rd L 8) (rd L 9) (rd L 10) (rd L 11) (rd L 12) (rd L 13) (rd L 14) (rd L 15) (rd L 16) (rd L 17) (rd L 18) (rd L 19) (rd L 20) (rd L 21) (rd L 22) (rd L 23) (rd L 24) (rd L 25) (rd L 26) (rd L 27) lp a b l n m = some true := by
 obtain ⟨K, hK⟩ : ∃ K, K = 5000000 := ⟨_, rfl⟩
 refine ⟨K + 3, ?_⟩
 unfold laws_FnExactFillWord.f
 by_cases h1 : a.size > 1048576
 ·rw [if_pos (by omega)]
 rw [if_neg (by omega)]
 by_cases h3 : b.size > 1048576
 ·rw [if_pos (by omega)]
 rw [if_neg (by omega), szFace_eq L lp hlp, Option.bind_some]
 by_cases h2 : 1048576 < lp.length
 ·rw [if_pos h2, if_pos (by omega)]
 rw [if_neg h2, if_neg (by omega)]
 obtain ⟨r, hr1, hr2⟩ := szS_eq l hln hls (1048576 - (lp.length : Int)) (by omega) (by omega) (by omega : 1048576 < K + 3)
 rw [hr1, Option.bind_some]
 by_cases h4 : r < 0
 ·rw [if_pos h4]
 obtain ⟨hn, hs⟩ := hr2.resolve_left h4
 rw [if_neg h4]
 have hlen := fillWordC_len L (lp.map toP) a b l n m
 have hsp : ∀ k, 4194600 < k → spec_FillWord.f k (rd L 0) (rd L 1) (rd L 2) (rd L 3) (rd L 4) (rd L 5) (rd L 6) (rd L 7) (rd L 8) (rd L 9) (rd L 10) (rd L 11) (rd L 12) (rd L 13) (rd L 14) (rd L 15) (rd L 16) (rd L 17) (rd L 18) (rd L 19) (rd L 20) (rd L 21) (rd L 22) (rd L 23) (rd L 24) (rd L 25) (rd L 26) (rd L 27) (lp.map toP) a b l n m = some (fillWordC L (lp.map toP) a b l n m) := fun k hk => spec_FillWord_eq hl hr a b (by omega) (by omega) l hs hn n m hk
 have him : impl_FillWord.f (rd L 0) (rd L 1) (rd L 2) (rd L 3) (rd L 4) (rd L 5) (rd L 6) (rd L 7) (rd L 8) (rd L 9) (rd L 10) (rd L 11) (rd L 12) (rd L 13) (rd L 14) (rd L 15) (rd L 16) (rd L 17) (rd L 18) (rd L 19) (rd L 20) (rd L 21) (rd L 22) (rd L 23) (rd L 24) (rd L 25) (rd L 26) (rd L 27) (lp.map toP) a b l n m = some (fillWordC L (lp.map toP) a b l n m) := impl_FillWord_eq hl hr a b (by omega) (by omega) l hs hn n m
 obtain ⟨x, hx, hx0, hx1⟩ := markFace_eq2 L (lp.map toP) (size_le (by omega : lp.length ≤ 1048576)) (by omega : 1048577 < K + 2)
 obtain ⟨l', hms⟩ := markS_l0 l.length (K + 2) 0 l x.1 (by omega) (by omega) hn hx0 (by omega)
 have hms' : laws_markStringS.f (K + 2) l x.1 = some (x.1 + l.length, l') := hms
 have ht := toFace_eq L lp (by omega)
 have hts : ∀ k, 1048576 < k → laws_toStringS.f k l = some l := fun k hk => toS_eq l hn hk
 have hes : ∀ k, 1048576 < k → laws_eqStringS.f k l l = some true := fun k hk => eqS_self l hn hk
 have he : ∀ k, 1048577 < k → laws_eqFace.f (rd L 0) (rd L 1) (rd L 2) (rd L 3) (rd L 4) (rd L 5) (rd L 6) (rd L 7) (rd L 8) (rd L 9) (rd L 10) (rd L 11) (rd L 12) (rd L 13) (rd L 14) (rd L 15) (rd L 16) (rd L 17) (rd L 18) (rd L 19) (rd L 20) (rd L 21) (rd L 22) (rd L 23) (rd L 24) (rd L 25) (rd L 26) (rd L 27) (lp.map toP) (rd L 0) (rd L 1) (rd L 2) (rd L 3) (rd L 4) (rd L 5) (rd L 6) (rd L 7) (rd L 8) (rd L 9) (rd L 10) (rd L 11) (rd L 12) (rd L 13) (rd L 14) (rd L 15) (rd L 16) (rd L 17) (rd L 18) (rd L 19) (rd L 20) (rd L 21) (rd L 22) (rd L 23) (rd L 24) (rd L 25) (rd L 26) (rd L 27) (lp.map toP) = some true := fun k hk => eqFace_self L _ (size_le (by omega)) hk
 rw [ht, Option.bind_some, hts _ (by omega), Option.bind_some]
 dsimp only
 rw [hsp _ (by omega), Option.bind_some, Option.bind_some, Option.bind_some]
 dsimp only
 rw [him, Option.bind_some, eqInt64S_self (by omega) (by omega), Option.bind_some, if_pos rfl, bne_self_eq_false]
 rw [laws_FnExactFillWord.j0, if_neg (by simp), ht, Option.bind_some]
 dsimp only
 rw [he 2000000 (by omega), Option.bind_some, if_pos rfl, hts _ (by omega), Option.bind_some, hes _ (by omega), Option.bind_some, if_pos rfl, hx, Option.bind_some, hms', Option.bind_some]
 dsimp only
 rw [if_neg (by omega), eqInt64S_self (by omega) (by omega), Option.bind_some, if_pos rfl, bne_self_eq_false]
 rw [laws_FnExactFillWord.j1, if_neg (by simp), markInt64S_eq (by omega) (by omega) (by omega) (by omega), Option.bind_some]
 dsimp only
 rw [heldInt64S_eq (by omega) (by omega) (by omega) (by omega), Option.bind_some, if_neg (by omega), if_pos rfl, ht, Option.bind_some, hts _ (by omega), Option.bind_some]
 dsimp only
 rw [him, Option.bind_some, eqInt64S_self (by omega) (by omega), Option.bind_some, if_pos rfl, bne_self_eq_false]
 rw [laws_FnExactFillWord.j2, if_neg (by simp), heldInt64S_eq (by omega) (by omega) (by omega) (by omega), Option.bind_some, if_neg (by omega), if_pos rfl]
theorem fillWord_walk (L : List Int) (hl : L.length = 28) (hb : ∀ y ∈ L, -128 ≤ y ∧ y ≤ 127) (A : Option Addr) (c : Nat) (P : List LP) (hc : P.length ≤ c) (hm : c ≤ maxLen) (hp : ∀ p ∈ P, (0 ≤ p.f0 ∧ p.f0 ≤ 255) ∧ (0 ≤ p.f1 ∧ p.f1 ≤ 255) ∧ (-128 ≤ p.f2 ∧ p.f2 ≤ 127)) (s0 : ByteArray) (s1 : ByteArray) (A2 : Option Addr) (c2 : Nat) (l2 : List ByteArray) (hc2 : l2.length ≤ c2) (hz2 : ∀ s ∈ l2, s.size ≤ maxLen) (n3 : Int) (n4 : Int) (w : World) (hr : Kd.C kLP w A P.length P) (hr2 : Kd.C Kd.string w A2 l2.length l2) (hM : GlobM w) :
  Calls Tryd.prog 11 #[.agg (faceV L A P.length c), .string s0, .string s1, .slice A2 l2.length c2, .int .i64 n3, .int .i64 n4] w fun e w' => e = .returned (.bool true) ∧ Below w.heap.size w w' := by
 obtain ⟨k, hk⟩ := fillWord_law L hl P (by unfold maxLen at hm; omega) (rng_of hb hp) s0 s1 l2 n3 n4 hr2.2.1 hz2
 have h := laws_FnExactFillWord.calls k (rd L 0) (rd L 1) (rd L 2) (rd L 3) (rd L 4) (rd L 5) (rd L 6) (rd L 7) (rd L 8) (rd L 9) (rd L 10) (rd L 11) (rd L 12) (rd L 13) (rd L 14) (rd L 15) (rd L 16) (rd L 17) (rd L 18) (rd L 19) (rd L 20) (rd L 21) (rd L 22) (rd L 23) (rd L 24) (rd L 25) (rd L 26) (rd L 27) A c P s0 s1 A2 c2 l2 n3 n4 true w hr hc hr2 hc2 hM hk
 rw [faceV_all L hl A P.length c]
 exact h
end Go.Proofs.YticjkfacdmmopaaDoor.Pure
