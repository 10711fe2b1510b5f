/- Contracts and plain laws of functions of the given program; no conditions beside those in the theorems. -/
import Derived.Test.YtfnhjoemmiepiaaDoorProg
import Derived.Below
import Derived.Deep.Draws
import Derived.Deep.AppendLies
import Derived.Maps.AppendAt
import Derived.OwnWalk
import Derived.Laws.BytesArg
import Derived.Laws.MakeOwn
import Derived.Laws.OwnMore
import Derived.Deep.OwnRows
import Derived.Tactics
import Derived.Lib.ConvBytes
import Derived.Laws.Slices
import Derived.WalkKit
import Derived.KernelRfl
import Derived.RowKit3
import Derived.Deep.LoopGhost
import Derived.Deep.QuietTactic
import Derived.BigQuiet
import Derived.WideLaws
import Derived.Deep.DeepCutAuto
import Derived.Deep.CutBlock
import Derived.Deep.RegionHeld3
import Derived.Laws.Rows
import Derived.Lib.AppendStr
import Derived.ArgAppend
import Derived.Laws.IdiomCopy
import Derived.OrdersHeld
import Derived.Laws.BitsLemmas
import Derived.RowKit
import Derived.Test.YtfnhjoemmiepiaaDoorWWords
import Derived.Test.YtfnhjoemmiepiaaDoorWLast
import Derived.Test.YtfnhjoemmiepiaaDoorWTab
import Derived.Test.YtfnhjoemmiepiaaDoorWFour
import Derived.Test.YtfnhjoemmiepiaaDoorWQPut
import Derived.Test.YtfnhjoemmiepiaaDoorWApart
import Derived.Test.YtfnhjoemmiepiaaDoorWArr
import Derived.Test.YtfnhjoemmiepiaaDoorWZeros
import Derived.Test.YtfnhjoemmiepiaaDoorWFoot
import Derived.Test.YtfnhjoemmiepiaaDoorWKept
import Derived.Test.YtfnhjoemmiepiaaDoorWShare
import Derived.Test.YtfnhjoemmiepiaaDoorWN
import Derived.Test.YtfnhjoemmiepiaaDoorWFootNe
import Derived.Test.YtfnhjoemmiepiaaDoorWAt
import Derived.Test.YtfnhjoemmiepiaaDoorWEqStruct
import Derived.Test.YtfnhjoemmiepiaaDoorWRepsOne
import Derived.Test.YtfnhjoemmiepiaaDoorWInv
import Derived.Test.YtfnhjoemmiepiaaDoorWInvWords
import Derived.Test.YtfnhjoemmiepiaaDoorWGuard
import Derived.Test.YtfnhjoemmiepiaaDoorWNEv
import Derived.Test.YtfnhjoemmiepiaaDoorWMore
import Derived.Test.YtfnhjoemmiepiaaDoorC1ReadPrices
import Derived.Lib.ParseIntBTie
import Derived.Test.YtfnhjoemmiepiaaDoorC0ReadPrices
import Derived.Test.YtfnhjoemmiepiaaDoorShelf
import Derived.Lib.AppendIntMem
import Derived.Deep.MidRow
import Derived.Laws.ResultCell
import Derived.ProofKit
import Derived.OpenShut
import Derived.SizedLaws
import Derived.ShutString
namespace Go.Proofs.YtfnhjoemmiepiaaDoor.Ext
end Go.Proofs.YtfnhjoemmiepiaaDoor.Ext
namespace Go.Proofs.YtfnhjoemmiepiaaDoor.Q
open Go.Proofs.YtfnhjoemmiepiaaDoor.Ext
open Go.RowKit Go.Proofs.YtfnhjoemmiepiaaDoorW.PrintWords Go.Proofs.YtfnhjoemmiepiaaDoorW.PrintLast Go.Proofs.YtfnhjoemmiepiaaDoorW.PrintMore
attribute [local go_sem] max2_int min2_int max_two min_two max_three min_three max_four min_four
set_option linter.unusedVariables false
set_option linter.unusedSimpArgs false
def errW : Option Int → Value
  | none => .nilIface
  | some c => .iface 0 (.int .i64 c)
theorem errW_none : errW none = .nilIface := rfl
theorem errW_some (c : Int) : errW (some c) = .iface 0 (.int .i64 c) := rfl
theorem info2 : (Tryd.prog.info? 2).map (fun i => (i.zero, i.size, i.bytes)) = some (some (.int .i64 0), 1, 8) := by kernel_rfl
theorem info9 : (Tryd.prog.info? 9).map (fun i => (i.zero, i.size, i.bytes)) = some (some (.string ⟨#[]⟩), 1, 16) := by kernel_rfl
end Go.Proofs.YtfnhjoemmiepiaaDoor.Q
namespace Go.Proofs.YtfnhjoemmiepiaaDoor.Ext
end Go.Proofs.YtfnhjoemmiepiaaDoor.Ext
namespace Go.Proofs.YtfnhjoemmiepiaaDoor.Q
open Go.Proofs.YtfnhjoemmiepiaaDoor.Ext
open Go.RowKit Go.Proofs.YtfnhjoemmiepiaaDoorW.PrintWords Go.Proofs.YtfnhjoemmiepiaaDoorW.PrintLast Go.Proofs.YtfnhjoemmiepiaaDoorW.PrintMore
attribute [local go_sem] max2_int min2_int max_two min_two max_three min_three max_four min_four
set_option linter.unusedVariables false
set_option linter.unusedSimpArgs false
def spec_l01Split.l0 : Nat → ByteArray → Int → List ByteArray → Int → Int → Option (List ByteArray)
  | 0, _, _, _, _, _ => none
  | k + 1, x0, x1, x5, x6, x7 => if x7 < (x0.size : Int) then (if 0 ≤ x7 then (if (bt x0 x7) = x1 then (if 0 ≤ x6 then (if x6 ≤ x7 then (if x7 ≤ (x0.size : Int) then (if x5.length < 8796093022208 then (spec_l01Split.l0 k x0 x1 (x5 ++ [x0.extract (x6 : Int).toNat (x7 : Int).toNat]) (wrap64 (x7 + 1)) (wrap64 (x7 + 1))) else (none)) else (none)) else (none)) else (none)) else (spec_l01Split.l0 k x0 x1 x5 x6 (wrap64 (x7 + 1)))) else (none)) else (if 0 ≤ x6 then (if x6 ≤ (x0.size : Int) then (if x5.length < 8796093022208 then (some (x5 ++ [x0.extract (x6 : Int).toNat x0.size])) else (none)) else (none)) else (none))
def spec_l01Split.f (k : Nat) (a0 : ByteArray) (a1 : Int) : Option (List ByteArray) := spec_l01Split.l0 k a0 a1 (([] : List ByteArray)) 0 0
theorem spec_l01Split.mono_l : ∀ k, (∀ y0 y1 y2 y3 y4, LeO (spec_l01Split.l0 k y0 y1 y2 y3 y4) (spec_l01Split.l0 (k + 1) y0 y1 y2 y3 y4))
  | 0 => fun _ _ _ _ _ r h => by simp [spec_l01Split.l0] at h
  | k + 1 => by
    have ih0 := spec_l01Split.mono_l k
    · intro y0 y1 y2 y3 y4
      unfold spec_l01Split.l0
      repeat' first
      | (with_reducible exact ih0 _ _ _ _ _)
      | (with_reducible exact LeO.refl _)
      | (with_reducible exact LeO.none _)
      | (with_reducible refine LeO.ite ?_ ?_)
      | (with_reducible refine LeO.bind ?_ (fun _ => ?_))
      | exact ih0 _ _ _ _ _
      | exact LeO.none _
      | refine LeO.ite ?_ ?_
      | refine LeO.bind ?_ (fun _ => ?_)
theorem spec_l01Split.mono : ∀ a0 a1 k, LeO (spec_l01Split.f k a0 a1) (spec_l01Split.f (k + 1) a0 a1) := by
  intro a0 a1 k
  have ih0 := spec_l01Split.mono_l k
  unfold spec_l01Split.f
  repeat' first
      | (with_reducible exact ih0 _ _ _ _ _)
      | (with_reducible exact LeO.refl _)
      | (with_reducible exact LeO.none _)
      | (with_reducible refine LeO.ite ?_ ?_)
      | (with_reducible refine LeO.bind ?_ (fun _ => ?_))
      | exact ih0 _ _ _ _ _
      | exact LeO.none _
      | refine LeO.ite ?_ ?_
      | refine LeO.bind ?_ (fun _ => ?_)
set_option maxHeartbeats 8000000 in
set_option maxRecDepth 100000 in
theorem spec_l01Split.calls (k : Nat) (a0 : ByteArray) (a1 : Int) (r : List ByteArray) (w : World) (h : spec_l01Split.f k a0 a1 = some r) :
    Calls Tryd.prog 39 #[.string a0, .int .u8 a1] w fun e w' => ∃ v0_ : Value, e = .returned (v0_) ∧ Kd.R Kd.string 9 w' w.heap.size (fun _ => True) v0_ r ∧ Below w.heap.size w w' := by
  have HB := Aside0.mk (Below.refl w.heap.size w)
  have H : (spec_l01Split.l0 k a0 a1 (([] : List ByteArray)) 0 0) = some r := h
  clear h
  obtain ⟨y101, hy101⟩ : ∃ y_ : List ByteArray, y_ = (([] : List ByteArray)) := ⟨_, rfl⟩
  replace H : (spec_l01Split.l0 k a0 a1 y101 0 0) = some r := by first | (rw [hy101]; with_reducible exact H) | (have H2_ := (Option.bind_some _ _).symm.trans H; rw [hy101]; with_reducible exact H2_) | (have H2_ := (Option.bind_some _ _).symm.trans H; with_reducible exact H2_) | with_reducible exact H | (rw [hy101]; exact H) | exact H
  have Ny101 := Aside0.mk hy101
  clear hy101
  have H' := Aside0.mk H
  clear H
  go_enter Tryd.func39, Tryd.ntmps39
  go_wp2_with (first | ((with_reducible refine gate_dst (N := 8) rfl ?_); refine Kd.R_lit Kd.string _ 9 ?hg (N := 8) ?hd (xs := ([] : List ByteArray)) (inner := []) (ok := fun _ => True) (okp := fun _ => True) ?hr ?hp (fun _ hk => hk) trivial (Below.refl _ _) (Nat.le_refl _) (by simp) ?_; (case hd => rfl); (case hg => rfl); (case hr => first | (go_simp; done) | (go_simp; rfl)); (case hp => exact (Reps.none _ _)); intro v102 w3 ho4 hb hg_ hnew_; clear hg_ hnew_; (first | rw [← Ny101.out] at ho4 | (simp only [Int.reduceToNat] at ho4; rw [← Ny101.out] at ho4)); have n0_ := Aside0.mk (Kd.R_lower ho4 (below_size (by repeat (first | (with_reducible first | exact HB.out | apply below_alloc | apply pw_below_drewN | apply below_drew1) | exact HB.out)))); have n1_ := Aside0.mk (below_step (by repeat (first | (with_reducible first | exact HB.out | apply below_alloc | apply pw_below_drewN | apply below_drew1) | exact HB.out)) hb); clear HB; have HO103 := n0_; have HB := n1_; clear n0_ n1_; clear hb ho4))
  go_loopg [5, 6, 7] k (fun kq v5 v6 v7 w' => ∃ (x5_1 : List ByteArray) (x6_1 : Int) (x7_1 : Int), v6 = .int .i64 x6_1 ∧ v7 = .int .i64 x7_1 ∧ Aside0 (spec_l01Split.l0 kq a0 a1 x5_1 x6_1 x7_1 = some r) ∧ Aside0 (kq ≤ k) ∧ Aside0 (Kd.R Kd.string 9 w' w.heap.size (fun _ => True) v5 x5_1) ∧ Aside0 (Below w.heap.size w w'))
  case atStart => exact ⟨(y101), (0), (0), (by first | rfl | (simp; done) | (simp [*]; done)), (by first | rfl | (simp; done) | (simp [*]; done)), H', ⟨Nat.le_refl _⟩, ⟨by (with_reducible repeat (first | apply Kd.R_alloc | apply Kd.R_drewN | apply Kd.R_drew)); exact HO103.out⟩, ⟨by repeat (first | (with_reducible first | exact HB.out | apply below_alloc | apply pw_below_drewN | apply below_drew1) | exact HB.out)⟩⟩
  case round =>
    clear H'
    try clear p2
    try clear c3
    obtain ⟨x5_1, x6_1, x7_1, rfl, rfl, HA, HK1, HO_5, HB⟩ := hrel
    cases gk with
    | zero => exact absurd HA.out (by simp [spec_l01Split.l0])
    | succ k1 =>
      have H := HA.out
      clear HA
      simp only [spec_l01Split.l0] at H
      by_cases c5 : x7_1 < (a0.size : Int)
      · rw [if_pos c5] at H
        have c5b0 : decide (x7_1 < (a0.size : Int)) = true := decide_eq_true c5
        clear c5
        by_cases c6 : 0 ≤ x7_1
        · rw [if_pos c6] at H
          have c6b0 : decide (0 ≤ x7_1) = true := decide_eq_true c6
          clear c6
          by_cases c8 : (bt a0 x7_1) = a1
          · rw [if_pos c8] at H
            have c8b0 : ((bt a0 x7_1) == a1) = true := beq_iff_eq.mpr c8
            have c8b1 : ((bt a0 x7_1) != a1) = false := bne_eq_false_iff_eq.mpr c8
            clear c8
            by_cases c9 : 0 ≤ x6_1
            · rw [if_pos c9] at H
              have c9b0 := eq_true c9
              have c9b1 : decide (0 ≤ x6_1) = true := decide_eq_true c9
              clear c9
              by_cases c10 : x6_1 ≤ x7_1
              · rw [if_pos c10] at H
                have c10b0 := eq_true c10
                have c10b1 : decide (x6_1 ≤ x7_1) = true := decide_eq_true c10
                clear c10
                by_cases c11 : x7_1 ≤ (a0.size : Int)
                · rw [if_pos c11] at H
                  have c11b0 := eq_true c11
                  have c11b1 : decide (x7_1 ≤ (a0.size : Int)) = true := decide_eq_true c11
                  clear c11
                  by_cases c12 : x5_1.length < 8796093022208
                  · rw [if_pos c12] at H
                    have LMc12 := Aside0.mk c12
                    clear c12
                    obtain ⟨y104, hy104⟩ : ∃ y_ : List ByteArray, y_ = (x5_1 ++ [a0.extract (x6_1 : Int).toNat (x7_1 : Int).toNat]) := ⟨_, rfl⟩
                    replace H : (spec_l01Split.l0 k1 a0 a1 y104 (wrap64 (x7_1 + 1)) (wrap64 (x7_1 + 1))) = some r := by first | (rw [hy104]; with_reducible exact H) | (have H2_ := (Option.bind_some _ _).symm.trans H; rw [hy104]; with_reducible exact H2_) | (have H2_ := (Option.bind_some _ _).symm.trans H; with_reducible exact H2_) | with_reducible exact H | (rw [hy104]; exact H) | exact H
                    have Ny104 := Aside0.mk hy104
                    clear hy104
                    have H' := Aside0.mk H
                    clear H
                    have p7 : 0 ≤ (x7_1 : Int) := of_decide_eq_true (by first | (with_reducible assumption) | assumption)
                    have q7 : x7_1 < (a0.size : Int) := of_decide_eq_true (by first | (with_reducible assumption) | assumption)
                    have hx7 := bt_at a0 x7_1
                    replace p7 := eq_true p7
                    replace q7 := eq_true q7
                    go_wp2_with (first | ((with_reducible refine gate_builtin (b := .append) (xs := #[.tmp 20, .tmp 25]) rfl ?_); at_builtin; refine Kd.R_append Kd.string (w0 := w) w.heap.size rfl (.tmp 20) (.tmp 25) 70 9 (.string ⟨#[]⟩) 16 rfl Tryd.underlying70 info9 rfl (by decide) (by omega) u5 x5_1 (a0.extract (x6_1 : Int).toNat (x7_1 : Int).toNat) [.string (a0.extract (x6_1 : Int).toNat (x7_1 : Int).toNat)] (fun _ => True) (fun _ => False) rfl rfl ?aP (fun _ hk => hk.elim) ?aF ?aO ?aB ?aS ?aL ?_; (case aP => exact rfl); (case aB => exact (by repeat (first | (with_reducible first | exact HB.out | apply below_alloc | apply pw_below_drewN | apply below_drew1) | exact HB.out))); (case aF => exact (fun _ _ => trivial)); (case aO => exact (by (with_reducible repeat (first | apply Kd.R_alloc | apply Kd.R_drewN | apply Kd.R_drew)); exact HO_5.out)); (case aS => exact (below_size (by repeat (first | (with_reducible first | exact HB.out | apply below_alloc | apply pw_below_drewN | apply below_drew1) | exact HB.out)))); (case aL => have := LMc12.out; omega); intro v105 w13 ho hb hg hat; rw [← Ny104.out] at ho; have n0_ := Aside0.mk (hb); have n1_ := Aside0.mk (ho); clear HB; clear HO_5; have HB := n0_; have HO106 := n1_; clear n0_ n1_; clear ho hb hg hat))
                    go_roundg k1
                    case measure => have := HK1.out; omega
                    case rel => exact ⟨(y104), (wrap64 (x7_1 + 1)), (wrap64 (x7_1 + 1)), (by first | rfl | (simp; done) | (simp [*]; done)), (by first | rfl | (simp; done) | (simp [*]; done)), H', ⟨by have := HK1.out; omega⟩, ⟨by (with_reducible repeat (first | apply Kd.R_alloc | apply Kd.R_drewN | apply Kd.R_drew)); exact HO106.out⟩, ⟨by repeat (first | (with_reducible first | exact HB.out | apply below_alloc | apply pw_below_drewN | apply below_drew1) | exact HB.out)⟩⟩
                  · rw [if_neg c12] at H
                    exact absurd H (by simp)
                · rw [if_neg c11] at H
                  exact absurd H (by simp)
              · rw [if_neg c10] at H
                exact absurd H (by simp)
            · rw [if_neg c9] at H
              exact absurd H (by simp)
          · rw [if_neg c8] at H
            have c8b0 : ((bt a0 x7_1) == a1) = false := beq_eq_false_iff_ne.mpr c8
            have c8b1 : ((bt a0 x7_1) != a1) = true := bne_iff_ne.mpr c8
            have H' := Aside0.mk H
            clear H
            have p7 : 0 ≤ (x7_1 : Int) := of_decide_eq_true (by first | (with_reducible assumption) | assumption)
            have q7 : x7_1 < (a0.size : Int) := of_decide_eq_true (by first | (with_reducible assumption) | assumption)
            have hx7 := bt_at a0 x7_1
            replace p7 := eq_true p7
            replace q7 := eq_true q7
            go_wp2
            go_roundg k1
            case measure => have := HK1.out; omega
            case rel => exact ⟨(x5_1), (x6_1), (wrap64 (x7_1 + 1)), (by first | rfl | (simp; done) | (simp [*]; done)), (by first | rfl | (simp; done) | (simp [*]; done)), H', ⟨by have := HK1.out; omega⟩, ⟨by (with_reducible repeat (first | apply Kd.R_alloc | apply Kd.R_drewN | apply Kd.R_drew)); exact HO_5.out⟩, ⟨by repeat (first | (with_reducible first | exact HB.out | apply below_alloc | apply pw_below_drewN | apply below_drew1) | exact HB.out)⟩⟩
        · rw [if_neg c6] at H
          exact absurd H (by simp)
      · rw [if_neg c5] at H
        have c5b0 : decide (x7_1 < (a0.size : Int)) = false := decide_eq_false c5
        clear c5
        by_cases c14 : 0 ≤ x6_1
        · rw [if_pos c14] at H
          have c14b0 := eq_true c14
          have c14b1 : decide (0 ≤ x6_1) = true := decide_eq_true c14
          clear c14
          by_cases c15 : x6_1 ≤ (a0.size : Int)
          · rw [if_pos c15] at H
            have c15b0 := eq_true c15
            have c15b1 : decide (x6_1 ≤ (a0.size : Int)) = true := decide_eq_true c15
            clear c15
            by_cases c16 : x5_1.length < 8796093022208
            · rw [if_pos c16] at H
              have LMc16 := Aside0.mk c16
              clear c16
              obtain ⟨y107, hy107⟩ : ∃ y_ : List ByteArray, y_ = (x5_1 ++ [a0.extract (x6_1 : Int).toNat a0.size]) := ⟨_, rfl⟩
              replace H : (some y107) = some r := by first | (rw [hy107]; with_reducible exact H) | (have H2_ := (Option.bind_some _ _).symm.trans H; rw [hy107]; with_reducible exact H2_) | (have H2_ := (Option.bind_some _ _).symm.trans H; with_reducible exact H2_) | with_reducible exact H | (rw [hy107]; exact H) | exact H
              have Ny107 := Aside0.mk hy107
              clear hy107
              obtain rfl := Option.some.inj H
              go_wp2_with (first | ((with_reducible refine gate_builtin (b := .append) (xs := #[.tmp 29, .tmp 33]) rfl ?_); at_builtin; refine Kd.R_append Kd.string (w0 := w) w.heap.size rfl (.tmp 29) (.tmp 33) 70 9 (.string ⟨#[]⟩) 16 rfl Tryd.underlying70 info9 rfl (by decide) (by omega) u5 x5_1 (a0.extract (x6_1 : Int).toNat a0.size) [.string (a0.extract (x6_1 : Int).toNat a0.size)] (fun _ => True) (fun _ => False) rfl rfl ?aP (fun _ hk => hk.elim) ?aF ?aO ?aB ?aS ?aL ?_; (case aP => exact rfl); (case aB => exact (by repeat (first | (with_reducible first | exact HB.out | apply below_alloc | apply pw_below_drewN | apply below_drew1) | exact HB.out))); (case aF => exact (fun _ _ => trivial)); (case aO => exact (by (with_reducible repeat (first | apply Kd.R_alloc | apply Kd.R_drewN | apply Kd.R_drew)); exact HO_5.out)); (case aS => exact (below_size (by repeat (first | (with_reducible first | exact HB.out | apply below_alloc | apply pw_below_drewN | apply below_drew1) | exact HB.out)))); (case aL => have := LMc16.out; omega); intro v108 w17 ho hb hg hat; rw [← Ny107.out] at ho; have n0_ := Aside0.mk (hb); have n1_ := Aside0.mk (ho); clear HB; clear HO_5; have HB := n0_; have HO109 := n1_; clear n0_ n1_; clear ho hb hg hat))
              go_ret
              exact ⟨_, by first | rfl | (simp [errW_none, errW_some] <;> rfl) | (simp [*, errW_none, errW_some] <;> rfl), by (with_reducible repeat (first | apply Kd.R_alloc | apply Kd.R_drewN | apply Kd.R_drew)); exact HO109.out, by repeat (first | (with_reducible first | exact HB.out | apply below_alloc | apply pw_below_drewN | apply below_drew1) | exact HB.out)⟩
            · rw [if_neg c16] at H
              exact absurd H (by simp)
          · rw [if_neg c15] at H
            exact absurd H (by simp)
        · rw [if_neg c14] at H
          exact absurd H (by simp)
mutual
def spec_l01Number.j0 : Nat → ByteArray → Bool → Option (Int × Bool)
  | 0, _, _ => none
  | k + 1, x0, x22 => if x22 = true then (some (0, false)) else (spec_l01Number.l0 k x0 0 0)
def spec_l01Number.l0 : Nat → ByteArray → Int → Int → Option (Int × Bool)
  | 0, _, _, _ => none
  | k + 1, x0, x4, x5 => if x5 < (x0.size : Int) then (if 0 ≤ x5 then (if (bt x0 x5) < 48 then (some (0, false)) else (if (bt x0 x5) > 57 then (some (0, false)) else (spec_l01Number.l0 k x0 (wrap64 ((wrap64 (10 * x4)) + (((bt x0 x5) - 48) % 256))) (wrap64 (x5 + 1))))) else (none)) else (some (x4, true))
end
def spec_l01Number.f (k : Nat) (a0 : ByteArray) : Option (Int × Bool) := if a0.toList = ([] : List UInt8) then (spec_l01Number.j0 k a0 true) else (if (a0.size : Int) > 10 then (spec_l01Number.j0 k a0 true) else (if 0 < (a0.size : Int) then (if (bt a0 0) = 48 then (spec_l01Number.j0 k a0 (decide ((a0.size : Int) > 1))) else (spec_l01Number.j0 k a0 false)) else (none)))
theorem spec_l01Number.mono_l : ∀ k, (∀ y0 y1, LeO (spec_l01Number.j0 k y0 y1) (spec_l01Number.j0 (k + 1) y0 y1)) ∧ (∀ y0 y1 y2, LeO (spec_l01Number.l0 k y0 y1 y2) (spec_l01Number.l0 (k + 1) y0 y1 y2))
  | 0 => ⟨fun _ _ r h => by simp [spec_l01Number.j0] at h, fun _ _ _ r h => by simp [spec_l01Number.l0] at h⟩
  | k + 1 => by
    obtain ⟨ih0, ih1⟩ := spec_l01Number.mono_l k
    refine ⟨?_, ?_⟩
    · intro y0 y1
      unfold spec_l01Number.j0
      repeat' first
      | (with_reducible exact ih0 _ _)
      | (with_reducible exact ih1 _ _ _)
      | (with_reducible exact LeO.refl _)
      | (with_reducible exact LeO.none _)
      | (with_reducible refine LeO.ite ?_ ?_)
      | (with_reducible refine LeO.bind ?_ (fun _ => ?_))
      | exact ih0 _ _
      | exact ih1 _ _ _
      | exact LeO.none _
      | refine LeO.ite ?_ ?_
      | refine LeO.bind ?_ (fun _ => ?_)
    · intro y0 y1 y2
      unfold spec_l01Number.l0
      repeat' first
      | (with_reducible exact ih0 _ _)
      | (with_reducible exact ih1 _ _ _)
      | (with_reducible exact LeO.refl _)
      | (with_reducible exact LeO.none _)
      | (with_reducible refine LeO.ite ?_ ?_)
      | (with_reducible refine LeO.bind ?_ (fun _ => ?_))
      | exact ih0 _ _
      | exact ih1 _ _ _
      | exact LeO.none _
      | refine LeO.ite ?_ ?_
      | refine LeO.bind ?_ (fun _ => ?_)
theorem spec_l01Number.mono : ∀ a0 k, LeO (spec_l01Number.f k a0) (spec_l01Number.f (k + 1) a0) := by
  intro a0 k
  obtain ⟨ih0, ih1⟩ := spec_l01Number.mono_l k
  unfold spec_l01Number.f
  repeat' first
      | (with_reducible exact ih0 _ _)
      | (with_reducible exact ih1 _ _ _)
      | (with_reducible exact LeO.refl _)
      | (with_reducible exact LeO.none _)
      | (with_reducible refine LeO.ite ?_ ?_)
      | (with_reducible refine LeO.bind ?_ (fun _ => ?_))
      | exact ih0 _ _
      | exact ih1 _ _ _
      | exact LeO.none _
      | refine LeO.ite ?_ ?_
      | refine LeO.bind ?_ (fun _ => ?_)
set_option maxHeartbeats 8000000 in
set_option maxRecDepth 100000 in
theorem spec_l01Number.calls (k : Nat) (a0 : ByteArray) (r1 : Int) (r2 : Bool) (w : World) (h : spec_l01Number.f k a0 = some (r1, r2)) :
    Calls Tryd.prog 40 #[.string a0] w fun e w' => e = .returned (.tuple #[.int .i64 r1, .bool r2]) ∧ Drawn0 w w' := by
  have H : (if a0.toList = ([] : List UInt8) then (spec_l01Number.j0 k a0 true) else (if (a0.size : Int) > 10 then (spec_l01Number.j0 k a0 true) else (if 0 < (a0.size : Int) then (if (bt a0 0) = 48 then (spec_l01Number.j0 k a0 (decide ((a0.size : Int) > 1))) else (spec_l01Number.j0 k a0 false)) else (none)))) = some (r1, r2) := h
  clear h
  have HC2 := Aside0.mk H
  clear H
  go_enter Tryd.func40, Tryd.ntmps40
  go_upto_region 1 with (fail)
  go_cut [22] (fun v22 wc => ∃ (kq : Nat) (x22_1 : Bool), v22 = .bool x22_1 ∧ Aside0 (spec_l01Number.j0 kq a0 x22_1 = some (r1, r2)) ∧ Aside0 (kq ≤ k) ∧ Drawn0 w wc)
  case first =>
    have H := HC2.out
    clear HC2
    by_cases c3 : a0.toList = ([] : List UInt8)
    · rw [if_pos c3] at H
      have c3b0 : (a0.toList == ([] : List UInt8)) = true := beq_iff_eq.mpr c3
      have c3b1 : (a0.toList != ([] : List UInt8)) = false := bne_eq_false_iff_eq.mpr c3
      clear c3
      (first | rw [c3b0] | (simp only [i64_w, i32_w]; rw [c3b0]) | skip)
      have H' := Aside0.mk H
      clear H
      go_wp2
      go_meet
      case rel => exact ⟨_, (true), (by first | rfl | (simp; done) | (simp [*]; done)), H', ⟨by first | omega | exact Nat.le_refl _⟩, by repeat (first | exact Drawn0.refl _ | apply Drawn0.step)⟩
    · rw [if_neg c3] at H
      have c3b0 : (a0.toList == ([] : List UInt8)) = false := beq_eq_false_iff_ne.mpr c3
      have c3b1 : (a0.toList != ([] : List UInt8)) = true := bne_iff_ne.mpr c3
      (first | rw [c3b0] | (simp only [i64_w, i32_w]; rw [c3b0]) | skip)
      by_cases c4 : (a0.size : Int) > 10
      · rw [if_pos c4] at H
        have c4b0 : decide (10 < (a0.size : Int)) = true := decide_eq_true c4
        have c4b1 : decide (10 < a0.size) = true := decide_eq_true (by omega)
        clear c4
        have H' := Aside0.mk H
        clear H
        go_wp2
        go_meet
        case rel => exact ⟨_, (true), (by first | rfl | (simp; done) | (simp [*]; done)), H', ⟨by first | omega | exact Nat.le_refl _⟩, by repeat (first | exact Drawn0.refl _ | apply Drawn0.step)⟩
      · rw [if_neg c4] at H
        have c4b0 : decide (10 < (a0.size : Int)) = false := decide_eq_false c4
        have c4b1 : decide (10 < a0.size) = false := decide_eq_false (by omega)
        clear c4
        by_cases c5 : 0 < (a0.size : Int)
        · rw [if_pos c5] at H
          have c5b0 : decide (0 < (a0.size : Int)) = true := decide_eq_true c5
          have c5b1 : decide (0 < a0.size) = true := decide_eq_true (by omega)
          clear c5
          by_cases c7 : (bt a0 0) = 48
          · rw [if_pos c7] at H
            have c7b0 : ((bt a0 0) == 48) = true := beq_iff_eq.mpr c7
            have c7b1 : ((bt a0 0) != 48) = false := bne_eq_false_iff_eq.mpr c7
            clear c7
            have H' := Aside0.mk H
            clear H
            have p6 : 0 ≤ (0 : Int) := (by omega)
            have q6 : 0 < a0.size := (by have : (0 : Int) < (a0.size : Int) := of_decide_eq_true (by first | (with_reducible assumption) | assumption); omega)
            have hx6 : ∀ h : 0 < a0.size, ((a0[0]'h).toNat : Int) = bt a0 0 := bt_at a0 0
            clear p6
            have qi6 : (0 < (a0.size : Int)) = True := eq_true (of_decide_eq_true (by first | (with_reducible assumption) | assumption))
            replace q6 := eq_true q6
            go_wp2
            go_meet
            case rel => exact ⟨_, (decide ((a0.size : Int) > 1)), (by first | rfl | (simp; done) | (simp [*]; done)), H', ⟨by first | omega | exact Nat.le_refl _⟩, by repeat (first | exact Drawn0.refl _ | apply Drawn0.step)⟩
          · rw [if_neg c7] at H
            have c7b0 : ((bt a0 0) == 48) = false := beq_eq_false_iff_ne.mpr c7
            have c7b1 : ((bt a0 0) != 48) = true := bne_iff_ne.mpr c7
            have H' := Aside0.mk H
            clear H
            have p6 : 0 ≤ (0 : Int) := (by omega)
            have q6 : 0 < a0.size := (by have : (0 : Int) < (a0.size : Int) := of_decide_eq_true (by first | (with_reducible assumption) | assumption); omega)
            have hx6 : ∀ h : 0 < a0.size, ((a0[0]'h).toNat : Int) = bt a0 0 := bt_at a0 0
            clear p6
            have qi6 : (0 < (a0.size : Int)) = True := eq_true (of_decide_eq_true (by first | (with_reducible assumption) | assumption))
            replace q6 := eq_true q6
            go_wp2
            go_meet
            case rel => exact ⟨_, (false), (by first | rfl | (simp; done) | (simp [*]; done)), H', ⟨by first | omega | exact Nat.le_refl _⟩, by repeat (first | exact Drawn0.refl _ | apply Drawn0.step)⟩
        · rw [if_neg c5] at H
          exact absurd H (by simp)
  case rest =>
    clear HC2
    try clear p2
    try clear c3
    try clear c3b0
    try clear c3b1
    try clear c4
    try clear c4b0
    try clear c4b1
    try clear c5
    try clear c5b0
    try clear c5b1
    try clear p6
    try clear q6
    try clear hx6
    try clear qi6
    try clear c7
    try clear c7b0
    try clear c7b1
    try clear p6
    try clear q6
    obtain ⟨kq, x22_1, rfl, HA, HJ1, ⟨mc1, rfl⟩⟩ := hcut
    cases kq with
    | zero => exact absurd HA.out (by simp [spec_l01Number.j0])
    | succ kj1 =>
      have H := HA.out
      clear HA
      simp only [spec_l01Number.j0] at H
      by_cases c8 : x22_1 = true
      · subst c8
        have H1 : (some (0, false)) = some (r1, r2) := by rw [if_pos rfl] at H; exact H
        clear H
        have H := H1
        clear H1
        simp only [Option.some.injEq, Prod.mk.injEq] at H
        obtain ⟨rfl, rfl⟩ := H
        go_wp2
        go_ret2
        exact ⟨by first | rfl | (simp; done) | (simp [*]; done), by repeat (first | exact Drawn0.refl _ | apply Drawn0.step)⟩
      · replace c8 := Bool.eq_false_iff.mpr c8
        subst c8
        have H1 : (spec_l01Number.l0 kj1 a0 0 0) = some (r1, r2) := by rw [if_neg (show ¬ (false = true) by decide)] at H; exact H
        clear H
        have H := H1
        clear H1
        have H' := Aside0.mk H
        clear H
        go_wp2
        go_loopg [4, 5] kj1 (fun kq v4 v5 w' => ∃ (x4_2 : Int) (x5_2 : Int), v4 = .int .i64 x4_2 ∧ v5 = .int .i64 x5_2 ∧ Aside0 (spec_l01Number.l0 kq a0 x4_2 x5_2 = some (r1, r2)) ∧ Aside0 (kq ≤ kj1) ∧ Drawn0 w w')
        case atStart => exact ⟨(0), (0), (by first | rfl | (simp; done) | (simp [*]; done)), (by first | rfl | (simp; done) | (simp [*]; done)), H', ⟨Nat.le_refl _⟩, by repeat (first | exact Drawn0.refl _ | apply Drawn0.step)⟩
        case round =>
          clear H'
          try clear c1
          try clear p2
          try clear c3
          try clear c3b0
          try clear c3b1
          try clear c4
          try clear c4b0
          try clear c4b1
          try clear c5
          try clear c5b0
          try clear c5b1
          try clear p6
          try clear q6
          try clear hx6
          try clear qi6
          try clear c7
          try clear c7b0
          try clear c7b1
          try clear c8
          try clear p2
          try clear p6
          try clear q6
          obtain ⟨x4_2, x5_2, rfl, rfl, HA, HK2, ⟨m2, rfl⟩⟩ := hrel
          cases gk with
          | zero => exact absurd HA.out (by simp [spec_l01Number.l0])
          | succ k2 =>
            have H := HA.out
            clear HA
            simp only [spec_l01Number.l0] at H
            by_cases c9 : x5_2 < (a0.size : Int)
            · rw [if_pos c9] at H
              have c9b0 : decide (x5_2 < (a0.size : Int)) = true := decide_eq_true c9
              clear c9
              by_cases c10 : 0 ≤ x5_2
              · rw [if_pos c10] at H
                have c10b0 : decide (0 ≤ x5_2) = true := decide_eq_true c10
                clear c10
                by_cases c12 : (bt a0 x5_2) < 48
                · rw [if_pos c12] at H
                  have c12b0 : decide ((bt a0 x5_2) < 48) = true := decide_eq_true c12
                  clear c12
                  simp only [Option.some.injEq, Prod.mk.injEq] at H
                  obtain ⟨rfl, rfl⟩ := H
                  have p11 : 0 ≤ (x5_2 : Int) := of_decide_eq_true (by first | (with_reducible assumption) | assumption)
                  have q11 : x5_2 < (a0.size : Int) := of_decide_eq_true (by first | (with_reducible assumption) | assumption)
                  have hx11 := bt_at a0 x5_2
                  replace p11 := eq_true p11
                  replace q11 := eq_true q11
                  go_wp2
                  go_ret2
                  exact ⟨by first | rfl | (simp; done) | (simp [*]; done), by repeat (first | exact Drawn0.refl _ | apply Drawn0.step)⟩
                · rw [if_neg c12] at H
                  have c12b0 : decide ((bt a0 x5_2) < 48) = false := decide_eq_false c12
                  clear c12
                  by_cases c14 : (bt a0 x5_2) > 57
                  · rw [if_pos c14] at H
                    have c14b0 : decide (57 < (bt a0 x5_2)) = true := decide_eq_true c14
                    clear c14
                    simp only [Option.some.injEq, Prod.mk.injEq] at H
                    obtain ⟨rfl, rfl⟩ := H
                    have p11 : 0 ≤ (x5_2 : Int) := of_decide_eq_true (by first | (with_reducible assumption) | assumption)
                    have q11 : x5_2 < (a0.size : Int) := of_decide_eq_true (by first | (with_reducible assumption) | assumption)
                    have hx11 := bt_at a0 x5_2
                    replace p11 := eq_true p11
                    replace q11 := eq_true q11
                    have p13 : 0 ≤ (x5_2 : Int) := of_decide_eq_true (by first | (with_reducible assumption) | assumption)
                    have q13 : x5_2 < (a0.size : Int) := of_decide_eq_true (by first | (with_reducible assumption) | assumption)
                    have hx13 := bt_at a0 x5_2
                    replace p13 := eq_true p13
                    replace q13 := eq_true q13
                    go_wp2
                    go_ret2
                    exact ⟨by first | rfl | (simp; done) | (simp [*]; done), by repeat (first | exact Drawn0.refl _ | apply Drawn0.step)⟩
                  · rw [if_neg c14] at H
                    have c14b0 : decide (57 < (bt a0 x5_2)) = false := decide_eq_false c14
                    clear c14
                    have H' := Aside0.mk H
                    clear H
                    have p11 : 0 ≤ (x5_2 : Int) := of_decide_eq_true (by first | (with_reducible assumption) | assumption)
                    have q11 : x5_2 < (a0.size : Int) := of_decide_eq_true (by first | (with_reducible assumption) | assumption)
                    have hx11 := bt_at a0 x5_2
                    replace p11 := eq_true p11
                    replace q11 := eq_true q11
                    have p13 : 0 ≤ (x5_2 : Int) := of_decide_eq_true (by first | (with_reducible assumption) | assumption)
                    have q13 : x5_2 < (a0.size : Int) := of_decide_eq_true (by first | (with_reducible assumption) | assumption)
                    have hx13 := bt_at a0 x5_2
                    replace p13 := eq_true p13
                    replace q13 := eq_true q13
                    have p15 : 0 ≤ (x5_2 : Int) := of_decide_eq_true (by first | (with_reducible assumption) | assumption)
                    have q15 : x5_2 < (a0.size : Int) := of_decide_eq_true (by first | (with_reducible assumption) | assumption)
                    have hx15 := bt_at a0 x5_2
                    replace p15 := eq_true p15
                    replace q15 := eq_true q15
                    go_wp2
                    go_roundg k2
                    case measure => have := HJ1.out; have := HK2.out; omega
                    case rel => exact ⟨(wrap64 ((wrap64 (10 * x4_2)) + (((bt a0 x5_2) - 48) % 256))), (wrap64 (x5_2 + 1)), (by first | rfl | (simp; done) | (simp [*]; done)), (by first | rfl | (simp; done) | (simp [*]; done)), H', ⟨by have := HJ1.out; have := HK2.out; omega⟩, by repeat (first | exact Drawn0.refl _ | apply Drawn0.step)⟩
              · rw [if_neg c10] at H
                exact absurd H (by simp)
            · rw [if_neg c9] at H
              have c9b0 : decide (x5_2 < (a0.size : Int)) = false := decide_eq_false c9
              clear c9
              simp only [Option.some.injEq, Prod.mk.injEq] at H
              obtain ⟨rfl, rfl⟩ := H
              go_wp2
              go_ret2
              exact ⟨by first | rfl | (simp; done) | (simp [*]; done), by repeat (first | exact Drawn0.refl _ | apply Drawn0.step)⟩
end Go.Proofs.YtfnhjoemmiepiaaDoor.Q
namespace Go.Proofs.YtfnhjoemmiepiaaDoor.Pure
open Go.RowKit Go.Proofs.YtfnhjoemmiepiaaDoor.Ext Go.Proofs.YtfnhjoemmiepiaaDoor.Q Go.Proofs.YtfnhjoemmiepiaaDoor.Num Go.Proofs.YtfnhjoemmiepiaaDoorW.PrintWords Go.Proofs.YtfnhjoemmiepiaaDoorW.PrintLast Go.Proofs.YtfnhjoemmiepiaaDoorW.PrintMore
set_option linter.unusedVariables false
set_option linter.unusedSimpArgs false
set_option maxRecDepth 100000
theorem wrap_s (n : Nat) (h : n ≤ 4611686018427387904) : wrap64 ((n : Int) + 1) = ((n + 1 : Nat) : Int) := by unfold wrap64; omega
theorem somek {k d : Nat} (h : d < k) : ∃ m, k = m + 1 := ⟨k - 1, by omega⟩
theorem dlen (s : ByteArray) : s.data.toList.length = s.size := by simp
theorem bt_at (s : ByteArray) (i : Nat) (h : i < s.data.toList.length) : bt s (i : Int) = ((s.data.toList[i]).toNat : Int) := by
  have h' : i < s.size := by rw [← dlen]; exact h
  unfold bt
  rw [Int.toNat_natCast, dif_pos h']
  rfl
def splA (c : UInt8) (cur : List UInt8) : List UInt8 → List (List UInt8)
  | [] => [cur]
  | x :: l => if x = c then cur :: splA c [] l else splA c (cur ++ [x]) l
theorem spl_ne (c : UInt8) (l : List UInt8) : spl c l ≠ [] := by
  cases l with
  | nil => simp [spl]
  | cons x l =>
    simp only [spl]
    split
    · simp
    · split <;> simp
theorem splA_eq (c : UInt8) : ∀ (l cur y : List UInt8) (ys : List (List UInt8)), spl c l = y :: ys → splA c cur l = (cur ++ y) :: ys
  | [], cur, y, ys, h => by
    simp only [spl] at h
    injection h with h1 h2
    subst h1 h2
    simp [splA]
  | x :: l, cur, y, ys, h => by
    simp only [spl] at h
    simp only [splA]
    split at h
    · rename_i hx
      injection h with h1 h2
      subst h1
      rw [if_pos hx]
      cases hq : spl c l with
      | nil => exact absurd hq (spl_ne c l)
      | cons z zs =>
        rw [splA_eq c l [] z zs hq, ← h2, hq]
        simp
    · rename_i hx
      rw [if_neg hx]
      split at h
      · rename_i hq; exact absurd hq (spl_ne c l)
      · rename_i z zs hq
        injection h with h1 h2
        subst h1 h2
        rw [splA_eq c l (cur ++ [x]) z zs hq]
        simp
theorem splA_nil (c : UInt8) (l : List UInt8) : splA c [] l = spl c l := by
  cases hq : spl c l with
  | nil => exact absurd hq (spl_ne c l)
  | cons z zs => rw [splA_eq c l [] z zs hq]; simp
def mkB (l : List UInt8) : ByteArray := ⟨l.toArray⟩
theorem extract_eq (s : ByteArray) (b i : Nat) (hb : b ≤ i) (hi : i ≤ s.size) : s.extract b i = mkB ((s.data.toList.take i).drop b) := by
  apply ba_ext
  unfold mkB
  rw [ByteArray.data_extract, Array.toList_extract]
  rw [List.extract_eq_take_drop, List.drop_take]
theorem split_l0 (s : ByteArray) (c : UInt8) (hs : s.size ≤ 1048576) : ∀ (d k i b : Nat) (acc : List ByteArray), i + d = s.size → d < k → b ≤ i → acc.length ≤ i →
    spec_l01Split.l0 k s (c.toNat : Int) acc (b : Int) (i : Int) = some (acc ++ (splA c ((s.data.toList.take i).drop b) (s.data.toList.drop i)).map mkB)
  | 0, k, i, b, acc, hd, hk, hb, ha => by
    obtain ⟨k, rfl⟩ := somek hk
    have hl := dlen s
    rw [spec_l01Split.l0, if_neg (by omega), if_pos (by omega), if_pos (by omega), if_pos (by omega), List.drop_eq_nil_of_le (by omega : s.data.toList.length ≤ i)]
    have hi : i = s.size := by omega
    subst hi
    rw [Int.toNat_natCast, extract_eq s b s.size hb (Nat.le_refl _)]
    simp [splA]
  | d + 1, k, i, b, acc, hd, hk, hb, ha => by
    obtain ⟨k, rfl⟩ := somek hk
    have hl := dlen s
    have hi : i < s.data.toList.length := by omega
    rw [spec_l01Split.l0, if_pos (by omega), if_pos (by omega), bt_at s i hi, List.drop_eq_getElem_cons hi]
    by_cases hx : s.data.toList[i] = c
    · rw [if_pos (by rw [hx]), if_pos (by omega), if_pos (by omega), if_pos (by omega), if_pos (by omega), wrap_s i (by omega), Int.toNat_natCast, Int.toNat_natCast, split_l0 s c hs d k (i + 1) (i + 1) _ (by omega) (by omega) (Nat.le_refl _) (by simp; omega), extract_eq s b i hb (by omega)]
      rw [List.drop_eq_nil_of_le (by rw [List.length_take]; omega : (s.data.toList.take (i + 1)).length ≤ i + 1)]
      simp only [splA, if_pos hx, List.map_cons, List.append_assoc, List.singleton_append]
    · rw [if_neg (by intro e; exact hx (UInt8.toNat_inj.1 (by omega))), wrap_s i (by omega), split_l0 s c hs d k (i + 1) b acc (by omega) (by omega) (by omega) (by omega)]
      rw [List.take_succ_eq_append_getElem hi, List.drop_append_of_le_length (by rw [List.length_take]; omega)]
      simp only [splA, if_neg hx]
def wordsAt (c : UInt8) (s : ByteArray) : List ByteArray := (spl c s.data.toList).map mkB
theorem split_eq (s : ByteArray) (c : UInt8) (hs : s.size ≤ 1048576) {k : Nat} (hk : s.size < k) : spec_l01Split.f k s (c.toNat : Int) = some (wordsAt c s) := by
  unfold spec_l01Split.f
  have := split_l0 s c hs s.size k 0 0 [] (by omega) hk (by omega) (by simp)
  rw [show ((0 : Nat) : Int) = 0 from rfl] at this
  rw [this]
  simp [splA_nil, wordsAt]
theorem spl_sizes (c : UInt8) : ∀ (l : List UInt8), ((spl c l).map List.length).sum + (spl c l).length = l.length + 1
  | [] => by simp [spl]
  | x :: l => by
    have ih := spl_sizes c l
    have hne := spl_ne c l
    simp only [spl]
    split
    · simp; omega
    · split
      · rename_i h; exact absurd h hne
      · rename_i y ys h
        rw [h] at ih
        simp at ih ⊢
        omega
theorem mem_len_le {l : List (List UInt8)} {x : List UInt8} (h : x ∈ l) : x.length ≤ (l.map List.length).sum := by
  induction l with
  | nil => cases h
  | cons y ys ih =>
    rw [List.map_cons, List.sum_cons]
    rcases List.mem_cons.1 h with rfl | h
    · omega
    · have := ih h; omega
theorem words_len (c : UInt8) (s : ByteArray) : (wordsAt c s).length ≤ s.size + 1 := by
  have := spl_sizes c s.data.toList
  have hl := dlen s
  unfold wordsAt
  rw [List.length_map]
  omega
theorem mkB_size (l : List UInt8) : (mkB l).size = l.length := by simp [mkB, ByteArray.size]
theorem words_size (c : UInt8) (s : ByteArray) : ∀ x ∈ wordsAt c s, x.size ≤ s.size := by
  intro x hx
  unfold wordsAt at hx
  obtain ⟨y, hy, rfl⟩ := List.mem_map.1 hx
  have h1 := mem_len_le hy
  have h2 := spl_sizes c s.data.toList
  have h3 : 1 ≤ (spl c s.data.toList).length := by have := spl_ne c s.data.toList; cases hq : spl c s.data.toList with
    | nil => exact absurd hq this
    | cons y ys => simp
  have hl := dlen s
  rw [mkB_size]
  omega
def numS (l : List UInt8) : Int × Bool := if isNum l = true ∧ l.length ≤ 10 then ((vfrom 0 l : Int), true) else (0, false)
theorem num_l0 (s : ByteArray) (hs : s.size ≤ 10) : ∀ (d k i acc : Nat), i + d = s.size → d < k → acc < 10 ^ i →
    spec_l01Number.l0 k s (acc : Int) (i : Int) = some (if (s.data.toList.drop i).all isDig = true then ((vfrom acc (s.data.toList.drop i) : Int), true) else (0, false))
  | 0, k, i, acc, hd, hk, ha => by
    obtain ⟨k, rfl⟩ := somek hk
    have hl := dlen s
    rw [spec_l01Number.l0, if_neg (by omega), List.drop_eq_nil_of_le (by omega : s.data.toList.length ≤ i)]
    simp [vfrom_nil]
  | d + 1, k, i, acc, hd, hk, ha => by
    obtain ⟨k, rfl⟩ := somek hk
    have hl := dlen s
    have hi : i < s.data.toList.length := by omega
    have hp : 10 ^ i ≤ 10 ^ 9 := Nat.pow_le_pow_right (by omega) (by omega)
    have hp9 : (10 : Nat) ^ 9 = 1000000000 := rfl
    have hb := s.data.toList[i].toNat_lt
    rw [spec_l01Number.l0, if_pos (by omega), if_pos (by omega), bt_at s i hi, List.drop_eq_getElem_cons hi, List.all_cons]
    by_cases h1 : s.data.toList[i].toNat < 48
    · rw [if_pos (by omega)]
      have : isDig s.data.toList[i] = false := by unfold isDig; rw [decide_eq_false (by omega : ¬ 48 ≤ s.data.toList[i].toNat)]; rfl
      rw [this]
      simp
    · rw [if_neg (by omega)]
      by_cases h2 : s.data.toList[i].toNat > 57
      · rw [if_pos (by omega)]
        have : isDig s.data.toList[i] = false := by unfold isDig; rw [decide_eq_false (by omega : ¬ s.data.toList[i].toNat ≤ 57), Bool.and_false]
        rw [this]
        simp
      · have hdg : isDig s.data.toList[i] = true := by unfold isDig; rw [decide_eq_true (by omega : 48 ≤ s.data.toList[i].toNat), decide_eq_true (by omega : s.data.toList[i].toNat ≤ 57)]; rfl
        rw [if_neg (by omega), hdg, Bool.true_and]
        have e1 : wrap64 (wrap64 (10 * (acc : Int)) + (((s.data.toList[i].toNat : Int) - 48) % 256)) = ((acc * 10 + (s.data.toList[i].toNat - 48) : Nat) : Int) := by
          have : wrap64 (10 * (acc : Int)) = 10 * (acc : Int) := by unfold wrap64; omega
          rw [this]
          unfold wrap64; omega
        rw [e1, wrap_s i (by omega), num_l0 s hs d k (i + 1) _ (by omega) (by omega) (by rw [Nat.pow_succ]; omega), vfrom_cons]
theorem number_eq (s : ByteArray) {k : Nat} (hk : 20 < k) : spec_l01Number.f k s = some (numS s.data.toList) := by
  obtain ⟨k, rfl⟩ := somek hk
  have hl := dlen s
  unfold spec_l01Number.f numS
  by_cases h0 : s.data.toList = []
  · rw [if_pos (by rw [Ext.toList_eq, h0])]
    simp only [spec_l01Number.j0]
    rw [h0]
    simp [isNum]
  · rw [if_neg (by rw [Ext.toList_eq]; exact h0)]
    have hpos : 0 < s.data.toList.length := List.length_pos_iff.2 h0
    by_cases h10 : (s.size : Int) > 10
    · rw [if_pos h10]
      simp only [spec_l01Number.j0]
      rw [if_pos trivial, if_neg (by rintro ⟨_, h⟩; omega)]
    · rw [if_neg h10, if_pos (by omega)]
      have hb0 := bt_at s 0 hpos
      rw [show ((0 : Nat) : Int) = 0 from rfl] at hb0
      rw [hb0]
      have hhead : s.data.toList.head? = some s.data.toList[0] := by rw [List.head?_eq_getElem?, List.getElem?_eq_getElem hpos]
      have hlast := num_l0 s (by omega) s.size k 0 0 (by omega) (by omega) (by simp)
      rw [show ((0 : Nat) : Int) = 0 from rfl, List.drop_zero] at hlast
      have hne : (s.data.toList != []) = true := by simpa using h0
      by_cases h48 : s.data.toList[0].toNat = 48
      · have hz : s.data.toList[0] = 48 := UInt8.toNat_inj.1 h48
        rw [if_pos (by omega)]
        simp only [spec_l01Number.j0]
        by_cases h1 : (s.size : Int) > 1
        · rw [decide_eq_true h1, if_pos rfl]
          have : isNum s.data.toList = false := by
            unfold isNum
            rw [hhead, hz, hne]
            have : (s.data.toList.length == 1) = false := by rw [beq_eq_false_iff_ne]; omega
            rw [this]
            simp
          rw [this]
          simp
        · rw [decide_eq_false h1, if_neg (by simp), hlast]
          have h1' : s.data.toList.length = 1 := by omega
          have : isNum s.data.toList = s.data.toList.all isDig := by
            unfold isNum
            rw [hne, h1']
            simp
          rw [this]
          simp only [show s.data.toList.length ≤ 10 by omega, and_true]
      · have hz : s.data.toList[0] ≠ 48 := fun e => h48 (by rw [e]; rfl)
        rw [if_neg (by omega)]
        simp only [spec_l01Number.j0]
        rw [if_neg (by simp), hlast]
        have : isNum s.data.toList = s.data.toList.all isDig := by
          unfold isNum
          rw [hhead, hne]
          have : (some s.data.toList[0] != some 48) = true := by simpa using hz
          rw [this]
          simp
        rw [this]
        simp only [show s.data.toList.length ≤ 10 by omega, and_true]
theorem numS_some {most n : Nat} (hm : most < 10000000000) {l : List UInt8} (h : numB most l = some n) : numS l = ((n : Int), true) ∧ n ≤ most := by
  unfold numB at h
  split at h
  · rename_i hc
    have e := Option.some.inj h
    have hlen : l.length ≤ 10 := by
      apply Classical.byContradiction
      intro hn
      have := isNum_len l hc.1 (by omega)
      omega
    unfold numS
    rw [if_pos ⟨hc.1, hlen⟩, e]
    exact ⟨rfl, by omega⟩
  · cases h
theorem numS_none {most : Nat} {l : List UInt8} (h : numB most l = none) : (numS l).2 = false ∨ (numS l).1 > (most : Int) := by
  unfold numB at h
  split at h
  · cases h
  · rename_i hc
    unfold numS
    split
    · rename_i hq
      right
      have : ¬ vfrom 0 l ≤ most := fun hle => hc ⟨hq.1, hle⟩
      show ((vfrom 0 l : Nat) : Int) > most
      omega
    · left; rfl
def nums (most : Nat) : List ByteArray → Option (List Int)
  | [] => some []
  | x :: l => match numB most x.data.toList with
    | none => none
    | some n => match nums most l with
      | none => none
      | some r => some ((n : Int) :: r)
theorem nums_rng {most : Nat} : ∀ {l : List ByteArray} {r : List Int}, nums most l = some r → r.length = l.length ∧ ∀ x ∈ r, 0 ≤ x ∧ x ≤ (most : Int)
  | [], r, h => by
    obtain rfl := Option.some.inj h
    simp
  | x :: l, r, h => by
    simp only [nums] at h
    split at h
    · cases h
    · rename_i n hn
      split at h
      · cases h
      · rename_i r2 hr2
        obtain rfl := Option.some.inj h
        have ih := nums_rng hr2
        have hle : n ≤ most := ((numB_iff most _ n).1 hn).2
        refine ⟨by simp [ih.1], fun y hy => ?_⟩
        rcases List.mem_cons.1 hy with rfl | hy
        · omega
        · exact ih.2 y hy
end Go.Proofs.YtfnhjoemmiepiaaDoor.Pure
namespace Go.Proofs.YtfnhjoemmiepiaaDoor.Num
open Go.Lib
set_option linter.unusedVariables false
def numR (most : Nat) (l : List UInt8) : Int × Bool := match numB most l with
  | some n => ((n : Int), true)
  | none => (0, false)
theorem numB_none {most : Nat} {l : List UInt8} (h : ∀ n, l = decDigits n → n ≤ most → False) : numB most l = none := by
  cases hb : numB most l with
  | none => rfl
  | some n =>
    obtain ⟨h1, h2⟩ := (numB_iff most l n).1 hb
    exact (h n h1 h2).elim
theorem numR_none {most : Nat} {l : List UInt8} (h : ∀ n, l = decDigits n → n ≤ most → False) : numR most l = (0, false) := by
  unfold numR
  rw [numB_none h]
theorem itoa_nat (n : Nat) : itoa (n : Int) = decDigits n := by
  unfold itoa
  rw [if_neg (by omega)]
  congr 1
theorem numR_syntax {most : Nat} (hm : most < 9223372036854775808) {l : List UInt8} (h : ∀ v, parseIntB 64 l ≠ .ok v) : numR most l = (0, false) :=
  numR_none fun n hn hn2 => by
    subst hn
    exact h _ (parseIntB_decDigits n (by omega))
theorem numR_other {most : Nat} (hm : most < 9223372036854775808) {l : List UInt8} {v : Int} (h : parseIntB 64 l = .ok v) (hn : ¬ (itoa v = l ∧ 0 ≤ v ∧ v ≤ most)) : numR most l = (0, false) :=
  numR_none fun n h1 h2 => by
    subst h1
    have h3 := parseIntB_decDigits n (by omega)
    rw [h3] at h
    injection h with h
    subst h
    exact hn ⟨itoa_nat n, by omega, by omega⟩
theorem numR_ok {most : Nat} {l : List UInt8} {v : Int} (h1 : itoa v = l) (h2 : 0 ≤ v) (h3 : v ≤ most) : numR most l = (v, true) := by
  obtain ⟨n, rfl⟩ := Int.eq_ofNat_of_zero_le h2
  have : numB most l = some n := (numB_iff most l n).2 ⟨by rw [← h1]; exact itoa_nat n, by omega⟩
  unfold numR
  rw [this]
end Go.Proofs.YtfnhjoemmiepiaaDoor.Num
namespace Go.Proofs.YtfnhjoemmiepiaaDoor.Ext
open Go.RowKit Go.Proofs.YtfnhjoemmiepiaaDoorW.PrintWords Go.Proofs.YtfnhjoemmiepiaaDoorW.PrintLast Go.Proofs.YtfnhjoemmiepiaaDoorW.PrintMore
set_option linter.unusedVariables false
set_option linter.unusedSimpArgs false
theorem decimal_calls (n : Int) (h0 : -9223372036854775808 ≤ n) (h1 : n ≤ 9223372036854775807) (w : World) (hG : GlobT w) :
    Calls Tryd.prog 72 #[.int .i64 n] w fun e w' => e = .returned (.string ⟨(Lib.itoa n).toArray⟩) ∧ Below w.heap.size w w' := by
  go_enter Tryd.func72, Tryd.ntmps72
  go_wp2_with fail
  refine (Tryd.strconv_FormatInt_10 n h0 h1 w hG.t).mono ?_
  rintro e w' ⟨rfl, k, os, rfl⟩
  go_wp2_with fail
  go_ret
  exact ⟨rfl, Lib.below_grow _ w (Nat.le_refl _) k os⟩
open Go.RowKit Go.Proofs.YtfnhjoemmiepiaaDoor.Num Go.Proofs.YtfnhjoemmiepiaaDoorW.PrintWords Go.Proofs.YtfnhjoemmiepiaaDoorW.PrintLast Go.Proofs.YtfnhjoemmiepiaaDoorW.PrintMore
set_option maxHeartbeats 1000000 in
theorem number_calls (s : ByteArray) (hs : s.size ≤ 1048576) (most : Nat) (hm : most ≤ 1000000) (w : World) (hG : GlobOk w) :
    Calls Tryd.prog 58 #[.string s, .int .i64 (most : Int)] w fun e w' => e = .returned (.tuple #[.int .i64 (numR most s.data.toList).1, .bool (numR most s.data.toList).2]) ∧ Below w.heap.size w w' := by
  have HG := Aside0.mk hG
  clear hG
  obtain ⟨ev, hev, hev2⟩ := HG.out.e
  obtain ⟨er, her, her2⟩ := HG.out.r
  go_enter Tryd.func58, Tryd.ntmps58
  go_wp2_with fail
  cases hp : Lib.parseIntB 64 s.data.toList with
  | «syntax» =>
    have hr : numR most s.data.toList = (0, false) := numR_syntax (by omega) (fun v h => by rw [hp] at h; cases h)
    have HRR := Aside0.mk hr
    clear hr
    refine (Tryd.strconv_ParseInt_10_at64_syntax s (by omega) hp ev _ hev hev2).mono ?_
    rintro e w1 ⟨N, rfl, h1, h2, hb⟩
    have HX := Aside0.mk hb
    clear hb h1 h2 hev her hp
    go_wp2_with fail
    go_ret2
    exact ⟨by rw [HRR.out]; rfl, HX.out⟩
  | range =>
    have hr : numR most s.data.toList = (0, false) := numR_syntax (by omega) (fun v h => by rw [hp] at h; cases h)
    have HRR := Aside0.mk hr
    clear hr
    refine (Tryd.strconv_ParseInt_10_at64_range s (by omega) hp er _ her her2).mono ?_
    rintro e w1 ⟨N, rfl, h1, h2, hb⟩
    have HX := Aside0.mk hb
    clear hb h1 h2 hev her hp
    go_wp2_with fail
    go_ret2
    exact ⟨by rw [HRR.out]; rfl, HX.out⟩
  | ok v =>
    have hv := Lib.parseIntB_bounds hp
    have hv1 : -9223372036854775808 ≤ v := by have := hv.1; rw [show (2 ^ (64 - 1) : Nat) = 9223372036854775808 from rfl] at this; omega
    have hv2 : v ≤ 9223372036854775807 := by have := hv.2; rw [show (2 ^ (64 - 1) : Nat) = 9223372036854775808 from rfl] at this; omega
    refine (Tryd.strconv_ParseInt_10_at64_ok s (by omega) v hp _).mono ?_
    rintro e w1 ⟨rfl, hw⟩
    have hb : Below w.heap.size w w1 := by
      rcases hw with rfl | ⟨t, rfl⟩
      · exact Below.refl _ _
      · exact bytes_below (Below.refl _ _) (Nat.le_refl _) _ t
    have HB := Aside0.mk hb
    have HP := Aside0.mk hp
    clear hb hw hp hv
    go_wp2_with fail
    refine (decimal_calls v hv1 hv2 _ (HG.out.toT.below HB.out)).mono ?_
    rintro e w2 ⟨rfl, hb⟩
    replace HB := Aside0.mk (below_step HB.out hb)
    clear hb
    obtain ⟨d, hd⟩ : ∃ d : ByteArray, d = ⟨(Lib.itoa v).toArray⟩ := ⟨_, rfl⟩
    rw [← hd]
    have hdl : d.data.toList = Lib.itoa v := by rw [hd]
    by_cases hds : d = s
    · have hit : Lib.itoa v = s.data.toList := by rw [← hdl, hds]
      have hb1 : (d.toList == s.toList) = true := by rw [hds]; simp
      have hb2 : (d.toList != s.toList) = false := by unfold bne; rw [hb1]; rfl
      have HI := Aside0.mk hit
      clear hd hdl hit hds
      go_wp2_with fail
      refine (within_calls _ _ _ _).mono ?_
      rintro e w3 ⟨rfl, rfl⟩
      by_cases hin : inB v 0 (most : Int) = true
      · have h2 := inB_iff.1 hin
        have HRR := Aside0.mk (numR_ok (most := most) HI.out h2.1 h2.2)
        rw [hin]
        go_wp2_with fail
        go_ret2
        exact ⟨by rw [HRR.out]; rfl, HB.out⟩
      · have hr := numR_other (most := most) (by omega) HP.out (fun h => hin (inB_iff.2 h.2))
        rw [Bool.eq_false_iff.2 hin]
        have HRR := Aside0.mk hr
        clear hr
        go_wp2_with fail
        go_ret2
        exact ⟨by rw [HRR.out]; rfl, HB.out⟩
    · have hr := numR_other (most := most) (by omega) HP.out (fun h => hds (ByteArray.ext (Array.toList_inj.1 (by rw [hdl]; exact h.1))))
      have hb1 : (d.toList == s.toList) = false := by rw [beq_eq_false_iff_ne, toList_eq, toList_eq]; intro e; exact hds (ByteArray.ext (Array.toList_inj.1 e))
      have hb2 : (d.toList != s.toList) = true := by unfold bne; rw [hb1]; rfl
      have HRR := Aside0.mk hr
      clear hd hdl hr hds
      go_wp2_with fail
      go_ret2
      exact ⟨by rw [HRR.out]; rfl, HB.out⟩
def impl_number.f (a0 : ByteArray) (a1 : Int) : Option (Int × Bool) := if a0.size ≤ 1048576 ∧ 0 ≤ a1 ∧ a1 ≤ 1000000 then some (numR a1.toNat a0.data.toList) else none
theorem impl_number.calls (a0 : ByteArray) (a1 : Int) (r1 : Int) (r2 : Bool) (w : World) (hG : GlobOk w) (h : impl_number.f a0 a1 = some (r1, r2)) :
    Calls Tryd.prog 58 #[.string a0, .int .i64 a1] w fun e w' => e = .returned (.tuple #[.int .i64 r1, .bool r2]) ∧ Below w.heap.size w w' := by
  unfold impl_number.f at h
  split at h
  · rename_i hc
    obtain ⟨n, rfl⟩ := Int.eq_ofNat_of_zero_le hc.2.1
    have h2 := Option.some.inj h
    have := number_calls a0 hc.1 n (by omega) w hG
    rw [Int.toNat_natCast] at h2
    rw [h2] at this
    exact this
  · cases h
end Go.Proofs.YtfnhjoemmiepiaaDoor.Ext
namespace Go.Proofs.YtfnhjoemmiepiaaDoor.Q
open Go.Proofs.YtfnhjoemmiepiaaDoor.Ext
open Go.RowKit Go.Proofs.YtfnhjoemmiepiaaDoorW.PrintWords Go.Proofs.YtfnhjoemmiepiaaDoorW.PrintLast Go.Proofs.YtfnhjoemmiepiaaDoorW.PrintMore
attribute [local go_sem] max2_int min2_int max_two min_two max_three min_three max_four min_four
set_option linter.unusedVariables false
set_option linter.unusedSimpArgs false
def impl_numbersOf.l0 : Nat → Int → Int → List Int → List ByteArray → Int → Int → Option (List Int × Bool)
  | 0, _, _, _, _, _, _ => none
  | k + 1, x1, x2, x8, x15, x16, x17 => if x17 < x16 then (if 0 ≤ x17 then (if x17 < (x15.length : Int) then ((impl_number.f (rdOf ByteArray.empty x15 x17) x2).bind fun bt117 => (if bt117.2 = true then (if x8.length < 17592186044416 then (impl_numbersOf.l0 k x1 x2 (x8 ++ [bt117.1]) x15 x16 (wrap64 (x17 + 1))) else (none)) else (some (([] : List Int), false)))) else (none)) else (none)) else (some (x8, ((x8.length : Int) == x1)))
def impl_numbersOf.f (k : Nat) (a0 : ByteArray) (a1 : Int) (a2 : Int) : Option (List Int × Bool) := (strings_Split.f a0 (⟨#[32]⟩ : ByteArray)).bind fun t113 => (impl_numbersOf.l0 k a1 a2 (([] : List Int)) t113 (t113.length : Int) 0)
theorem impl_numbersOf.mono_l : ∀ k, (∀ y0 y1 y2 y3 y4 y5, LeO (impl_numbersOf.l0 k y0 y1 y2 y3 y4 y5) (impl_numbersOf.l0 (k + 1) y0 y1 y2 y3 y4 y5))
  | 0 => fun _ _ _ _ _ _ r h => by simp [impl_numbersOf.l0] at h
  | k + 1 => by
    have ih0 := impl_numbersOf.mono_l k
    · intro y0 y1 y2 y3 y4 y5
      unfold impl_numbersOf.l0
      repeat' first
      | (with_reducible exact ih0 _ _ _ _ _ _)
      | (with_reducible exact LeO.refl _)
      | (with_reducible exact LeO.none _)
      | (with_reducible refine LeO.ite ?_ ?_)
      | (with_reducible refine LeO.bind ?_ (fun _ => ?_))
      | exact ih0 _ _ _ _ _ _
      | exact LeO.none _
      | refine LeO.ite ?_ ?_
      | refine LeO.bind ?_ (fun _ => ?_)
theorem impl_numbersOf.mono : ∀ a0 a1 a2 k, LeO (impl_numbersOf.f k a0 a1 a2) (impl_numbersOf.f (k + 1) a0 a1 a2) := by
  intro a0 a1 a2 k
  have ih0 := impl_numbersOf.mono_l k
  unfold impl_numbersOf.f
  repeat' first
      | (with_reducible exact ih0 _ _ _ _ _ _)
      | (with_reducible exact LeO.refl _)
      | (with_reducible exact LeO.none _)
      | (with_reducible refine LeO.ite ?_ ?_)
      | (with_reducible refine LeO.bind ?_ (fun _ => ?_))
      | exact ih0 _ _ _ _ _ _
      | exact LeO.none _
      | refine LeO.ite ?_ ?_
      | refine LeO.bind ?_ (fun _ => ?_)
set_option maxHeartbeats 8000000 in
set_option maxRecDepth 100000 in
theorem impl_numbersOf.calls (k : Nat) (a0 : ByteArray) (a1 : Int) (a2 : Int) (r1 : List Int) (r2 : Bool) (w : World) (hG : GlobOk w) (h : impl_numbersOf.f k a0 a1 a2 = some (r1, r2)) :
    Calls Tryd.prog 41 #[.string a0, .int .i64 a1, .int .i64 a2] w fun e w' => ∃ v0_ : Value, e = .returned (.tuple #[v0_, .bool r2]) ∧ Kd.R (Kd.int .i64) 2 w' w.heap.size (fun _ => True) v0_ r1 ∧ Below w.heap.size w w' := by
  have HG := Aside0.mk hG
  clear hG
  have HB := Aside0.mk (Below.refl w.heap.size w)
  have H : ((strings_Split.f a0 (⟨#[32]⟩ : ByteArray)).bind fun t113 => (impl_numbersOf.l0 k a1 a2 (([] : List Int)) t113 (t113.length : Int) 0)) = some (r1, r2) := h
  clear h
  obtain ⟨y110, hy110⟩ : ∃ y_ : List Int, y_ = (([] : List Int)) := ⟨_, rfl⟩
  replace H : ((strings_Split.f a0 (⟨#[32]⟩ : ByteArray)).bind fun t113 => (impl_numbersOf.l0 k a1 a2 y110 t113 (t113.length : Int) 0)) = some (r1, r2) := by first | (rw [hy110]; with_reducible exact H) | (have H2_ := (Option.bind_some _ _).symm.trans H; rw [hy110]; with_reducible exact H2_) | (have H2_ := (Option.bind_some _ _).symm.trans H; with_reducible exact H2_) | with_reducible exact H | (rw [hy110]; exact H) | exact H
  have Ny110 := Aside0.mk hy110
  clear hy110
  replace H := Option.bind_eq_some_iff.mp H
  obtain ⟨t113, A40, H⟩ := H
  replace H : (impl_numbersOf.l0 k a1 a2 y110 t113 (t113.length : Int) 0) = some (r1, r2) := H
  have A4 := Aside0.mk A40
  clear A40
  have H' := Aside0.mk H
  clear H
  go_enter Tryd.func41, Tryd.ntmps41
  go_wp2_with (first | ((with_reducible refine gate_dst (N := 13) rfl ?_); refine Kd.R_lit (Kd.int .i64) _ 2 ?hg (N := 13) ?hd (xs := ([] : List Int)) (inner := []) (ok := fun _ => True) (okp := fun _ => True) ?hr ?hp (fun _ hk => hk) trivial (Below.refl _ _) (Nat.le_refl _) (by simp) ?_; (case hd => rfl); (case hg => rfl); (case hr => first | (go_simp; done) | (go_simp; rfl)); (case hp => exact (Reps.none _ _)); intro v111 w5 ho6 hb hg_ hnew_; clear hg_ hnew_; (first | rw [← Ny110.out] at ho6 | (simp only [Int.reduceToNat] at ho6; rw [← Ny110.out] at ho6)); have n0_ := Aside0.mk (Kd.R_lower ho6 (below_size (by repeat (first | (with_reducible first | exact HB.out | apply below_alloc | apply pw_below_drewN | apply below_drew1) | exact HB.out)))); have n1_ := Aside0.mk (below_step (by repeat (first | (with_reducible first | exact HB.out | apply below_alloc | apply pw_below_drewN | apply below_drew1) | exact HB.out)) hb); clear HB; have HO112 := n0_; have HB := n1_; clear n0_ n1_; clear hb ho6) | ((with_reducible refine gate_callee (f := 57) rfl ?_); refine goesL_ (some 15) rfl rfl Tryd.func57 (by kernel_rfl) rfl #[.string a0, .string (⟨#[32]⟩ : ByteArray)] rfl (by (try simp only [List.map_toArray, List.map_cons, List.map_nil]); first | done | rfl | (simp only [List.length_drop, List.length_take]; rfl)) ?_; (with_reducible refine (strings_Split.calls a0 (⟨#[32]⟩ : ByteArray) t113 _ ?sideG A4.out).mono ?_); (case sideG => first | exact HG.out.below (by repeat (first | (with_reducible first | exact HB.out | apply below_alloc | apply pw_below_drewN | apply below_drew1) | exact HB.out)) | exact (HG.out.below (by repeat (first | (with_reducible first | exact HB.out | apply below_alloc | apply pw_below_drewN | apply below_drew1) | exact HB.out))).toM); rintro e w7 ⟨v114, rfl, ho0, hb⟩; refine ⟨_, rfl, ?_⟩; have n0_ := Aside0.mk (Kd.R_below (by (with_reducible repeat (first | apply Kd.R_alloc | apply Kd.R_drewN | apply Kd.R_drew)); exact HO112.out) hb); have n1_ := Aside0.mk (Kd.R_lower ho0 (below_size (by repeat (first | (with_reducible first | exact HB.out | apply below_alloc | apply pw_below_drewN | apply below_drew1) | exact HB.out)))); have n2_ := Aside0.mk (below_step (by repeat (first | (with_reducible first | exact HB.out | apply below_alloc | apply pw_below_drewN | apply below_drew1) | exact HB.out)) hb); clear HO112; clear HB; have HO112 := n0_; have HO115 := n1_; have HB := n2_; clear n0_ n1_ n2_; (try clear hb); (try clear hb2); (try clear hk); (try clear hi); (try clear ho0); obtain ⟨Ao8, co8, eo8⟩ := Kd.R_slice HO115.out; subst eo8))
  go_loopg [8, 17] k (fun kq v8 v17 w' => ∃ (x8_1 : List Int) (x17_1 : Int), v17 = .int .i64 x17_1 ∧ Aside0 (impl_numbersOf.l0 kq a1 a2 x8_1 t113 (t113.length : Int) x17_1 = some (r1, r2)) ∧ Aside0 (kq ≤ k) ∧ Aside0 (Kd.R (Kd.int .i64) 2 w' w.heap.size (fun _ => True) v8 x8_1) ∧ Aside0 (Kd.R Kd.string 9 w' w.heap.size (fun _ => True) (.slice Ao8 t113.length co8) t113) ∧ Aside0 (Below w.heap.size w w'))
  case atStart => exact ⟨(y110), (0), (by first | rfl | (simp; done) | (simp [*]; done)), H', ⟨Nat.le_refl _⟩, ⟨by (with_reducible repeat (first | apply Kd.R_alloc | apply Kd.R_drewN | apply Kd.R_drew)); exact HO112.out⟩, ⟨by (with_reducible repeat (first | apply Kd.R_alloc | apply Kd.R_drewN | apply Kd.R_drew)); exact HO115.out⟩, ⟨by repeat (first | (with_reducible first | exact HB.out | apply below_alloc | apply pw_below_drewN | apply below_drew1) | exact HB.out)⟩⟩
  case round =>
    clear H'
    try clear p2
    try clear c4
    try clear c5
    obtain ⟨x8_1, x17_1, rfl, HA, HK1, HO_8, HO_15, HB⟩ := hrel
    cases gk with
    | zero => exact absurd HA.out (by simp [impl_numbersOf.l0])
    | succ k1 =>
      have H := HA.out
      clear HA
      simp only [impl_numbersOf.l0] at H
      by_cases c9 : x17_1 < (t113.length : Int)
      · rw [if_pos c9] at H
        have c9b0 : decide (x17_1 < (t113.length : Int)) = true := decide_eq_true c9
        clear c9
        by_cases c10 : 0 ≤ x17_1
        · rw [if_pos c10] at H
          have c10b0 : decide (0 ≤ x17_1) = true := decide_eq_true c10
          clear c10
          by_cases c11 : x17_1 < (t113.length : Int)
          · rw [if_pos c11] at H
            have c11b0 : decide (x17_1 < (t113.length : Int)) = true := decide_eq_true c11
            clear c11
            replace H := Option.bind_eq_some_iff.mp H
            obtain ⟨⟨t117, t118⟩, A120, H⟩ := H
            replace H : (if t118 = true then (if x8_1.length < 17592186044416 then (impl_numbersOf.l0 k1 a1 a2 (x8_1 ++ [t117]) t113 (t113.length : Int) (wrap64 (x17_1 + 1))) else (none)) else (some (([] : List Int), false))) = some (r1, r2) := H
            have A12 := Aside0.mk A120
            clear A120
            by_cases c13 : t118 = true
            · subst c13
              have H1 : (if x8_1.length < 17592186044416 then (impl_numbersOf.l0 k1 a1 a2 (x8_1 ++ [t117]) t113 (t113.length : Int) (wrap64 (x17_1 + 1))) else (none)) = some (r1, r2) := by rw [if_pos rfl] at H; exact H
              clear H
              have H := H1
              clear H1
              by_cases c14 : x8_1.length < 17592186044416
              · rw [if_pos c14] at H
                have LMc14 := Aside0.mk c14
                clear c14
                obtain ⟨y119, hy119⟩ : ∃ y_ : List Int, y_ = (x8_1 ++ [t117]) := ⟨_, rfl⟩
                replace H : (impl_numbersOf.l0 k1 a1 a2 y119 t113 (t113.length : Int) (wrap64 (x17_1 + 1))) = some (r1, r2) := by first | (rw [hy119]; with_reducible exact H) | (have H2_ := (Option.bind_some _ _).symm.trans H; rw [hy119]; with_reducible exact H2_) | (have H2_ := (Option.bind_some _ _).symm.trans H; with_reducible exact H2_) | with_reducible exact H | (rw [hy119]; exact H) | exact H
                have Ny119 := Aside0.mk hy119
                clear hy119
                have H' := Aside0.mk H
                clear H
                have p116 : 0 ≤ (x17_1 : Int) := of_decide_eq_true (by first | (with_reducible assumption) | assumption)
                have q116 : x17_1 < (t113.length : Int) := of_decide_eq_true (by first | (with_reducible assumption) | assumption)
                obtain ⟨ad116, e116, hx116_0⟩ := Kd.at_string (Kd.R_reads' HO_15.out).2.2 x17_1 p116 q116
                cases e116
                replace p116 := eq_true p116
                replace q116 := eq_true q116
                go_wp2_with (first | ((with_reducible refine gate_callee (f := 58) rfl ?_); refine goesL_ (some 24) rfl rfl Tryd.func58 (by kernel_rfl) rfl #[.string (rdOf ByteArray.empty t113 x17_1), .int .i64 a2] rfl (by (try simp only [List.map_toArray, List.map_cons, List.map_nil]); first | done | rfl | (simp only [List.length_drop, List.length_take]; rfl)) ?_; (with_reducible refine (impl_number.calls (rdOf ByteArray.empty t113 x17_1) a2 t117 true _ ?sideG A12.out).mono ?_); (case sideG => first | exact HG.out.below (by repeat (first | (with_reducible first | exact HB.out | apply below_alloc | apply pw_below_drewN | apply below_drew1) | exact HB.out)) | exact (HG.out.below (by repeat (first | (with_reducible first | exact HB.out | apply below_alloc | apply pw_below_drewN | apply below_drew1) | exact HB.out))).toM); rintro e w15 ⟨rfl, hb⟩; refine ⟨_, rfl, ?_⟩; have n0_ := Aside0.mk (Kd.R_below (by (with_reducible repeat (first | apply Kd.R_alloc | apply Kd.R_drewN | apply Kd.R_drew)); exact HO_8.out) hb); have n1_ := Aside0.mk (Kd.R_below (by (with_reducible repeat (first | apply Kd.R_alloc | apply Kd.R_drewN | apply Kd.R_drew)); exact HO_15.out) hb); have n2_ := Aside0.mk (below_step (by repeat (first | (with_reducible first | exact HB.out | apply below_alloc | apply pw_below_drewN | apply below_drew1) | exact HB.out)) hb); clear HO_8; clear HO_15; clear HB; have HO_8 := n0_; have HO_15 := n1_; have HB := n2_; clear n0_ n1_ n2_; (try clear hb); (try clear hb2); (try clear hk); (try clear hi)) | ((with_reducible refine gate_builtin (b := .append) (xs := #[.tmp 29, .tmp 31]) rfl ?_); at_builtin; refine Kd.R_append (Kd.int .i64) (w0 := w) w.heap.size rfl (.tmp 29) (.tmp 31) 55 2 (.int .i64 0) 8 rfl Tryd.underlying55 info2 rfl (by decide) (by omega) u8 x8_1 t117 [.int .i64 t117] (fun _ => True) (fun _ => False) rfl rfl ?aP (fun _ hk => hk.elim) ?aF ?aO ?aB ?aS ?aL ?_; (case aP => exact rfl); (case aB => exact (by repeat (first | (with_reducible first | exact HB.out | apply below_alloc | apply pw_below_drewN | apply below_drew1) | exact HB.out))); (case aF => exact (fun _ _ => trivial)); (case aO => exact (by (with_reducible repeat (first | apply Kd.R_alloc | apply Kd.R_drewN | apply Kd.R_drew)); exact HO_8.out)); (case aS => exact (below_size (by repeat (first | (with_reducible first | exact HB.out | apply below_alloc | apply pw_below_drewN | apply below_drew1) | exact HB.out)))); (case aL => have := LMc14.out; omega); intro v120 w16 ho hb hg hat; rw [← Ny119.out] at ho; have n0_ := Aside0.mk (Kd.R_over' (by (with_reducible repeat (first | apply Kd.R_alloc | apply Kd.R_drewN | apply Kd.R_drew)); exact HO_15.out) (Kd.R_typed (by (with_reducible repeat (first | apply Kd.R_alloc | apply Kd.R_drewN | apply Kd.R_drew)); exact HO_8.out)) (by decide) hg); have n1_ := Aside0.mk (hb); have n2_ := Aside0.mk (ho); clear HO_15; clear HB; clear HO_8; have HO_15 := n0_; have HB := n1_; have HO121 := n2_; clear n0_ n1_ n2_; clear ho hb hg hat))
                go_roundg k1
                case measure => have := HK1.out; omega
                case rel => exact ⟨(y119), (wrap64 (x17_1 + 1)), (by first | rfl | (simp; done) | (simp [*]; done)), H', ⟨by have := HK1.out; omega⟩, ⟨by (with_reducible repeat (first | apply Kd.R_alloc | apply Kd.R_drewN | apply Kd.R_drew)); exact HO121.out⟩, ⟨by (with_reducible repeat (first | apply Kd.R_alloc | apply Kd.R_drewN | apply Kd.R_drew)); exact HO_15.out⟩, ⟨by repeat (first | (with_reducible first | exact HB.out | apply below_alloc | apply pw_below_drewN | apply below_drew1) | exact HB.out)⟩⟩
              · rw [if_neg c14] at H
                exact absurd H (by simp)
            · replace c13 := Bool.eq_false_iff.mpr c13
              subst c13
              have H1 : (some (([] : List Int), false)) = some (r1, r2) := by rw [if_neg (show ¬ (false = true) by decide)] at H; exact H
              clear H
              have H := H1
              clear H1
              simp only [Option.some.injEq, Prod.mk.injEq] at H
              obtain ⟨rfl, rfl⟩ := H
              have p116 : 0 ≤ (x17_1 : Int) := of_decide_eq_true (by first | (with_reducible assumption) | assumption)
              have q116 : x17_1 < (t113.length : Int) := of_decide_eq_true (by first | (with_reducible assumption) | assumption)
              obtain ⟨ad116, e116, hx116_0⟩ := Kd.at_string (Kd.R_reads' HO_15.out).2.2 x17_1 p116 q116
              cases e116
              replace p116 := eq_true p116
              replace q116 := eq_true q116
              go_wp2_with (first | ((with_reducible refine gate_callee (f := 58) rfl ?_); refine goesL_ (some 24) rfl rfl Tryd.func58 (by kernel_rfl) rfl #[.string (rdOf ByteArray.empty t113 x17_1), .int .i64 a2] rfl (by (try simp only [List.map_toArray, List.map_cons, List.map_nil]); first | done | rfl | (simp only [List.length_drop, List.length_take]; rfl)) ?_; (with_reducible refine (impl_number.calls (rdOf ByteArray.empty t113 x17_1) a2 t117 false _ ?sideG A12.out).mono ?_); (case sideG => first | exact HG.out.below (by repeat (first | (with_reducible first | exact HB.out | apply below_alloc | apply pw_below_drewN | apply below_drew1) | exact HB.out)) | exact (HG.out.below (by repeat (first | (with_reducible first | exact HB.out | apply below_alloc | apply pw_below_drewN | apply below_drew1) | exact HB.out))).toM); rintro e w17 ⟨rfl, hb⟩; refine ⟨_, rfl, ?_⟩; have n0_ := Aside0.mk (Kd.R_below (by (with_reducible repeat (first | apply Kd.R_alloc | apply Kd.R_drewN | apply Kd.R_drew)); exact HO_8.out) hb); have n1_ := Aside0.mk (Kd.R_below (by (with_reducible repeat (first | apply Kd.R_alloc | apply Kd.R_drewN | apply Kd.R_drew)); exact HO_15.out) hb); have n2_ := Aside0.mk (below_step (by repeat (first | (with_reducible first | exact HB.out | apply below_alloc | apply pw_below_drewN | apply below_drew1) | exact HB.out)) hb); clear HO_8; clear HO_15; clear HB; have HO_8 := n0_; have HO_15 := n1_; have HB := n2_; clear n0_ n1_ n2_; (try clear hb); (try clear hb2); (try clear hk); (try clear hi)))
              go_ret2
              exact ⟨_, by first | rfl | (simp [errW_none, errW_some] <;> rfl) | (simp [*, errW_none, errW_some] <;> rfl), by first | exact Kd.R_nil _ _ _ _ _ | exact Kd.N_nil _ _ _ _ _ | exact Kd.V_nil _ _ _ _ _ | exact Kd.Q_nil _ _ _ _ _ | exact Kd.S_nil _ _ _ _ _, by repeat (first | (with_reducible first | exact HB.out | apply below_alloc | apply pw_below_drewN | apply below_drew1) | exact HB.out)⟩
          · rw [if_neg c11] at H
            exact absurd H (by simp)
        · rw [if_neg c10] at H
          exact absurd H (by simp)
      · rw [if_neg c9] at H
        have c9b0 : decide (x17_1 < (t113.length : Int)) = false := decide_eq_false c9
        clear c9
        simp only [Option.some.injEq, Prod.mk.injEq] at H
        obtain ⟨rfl, rfl⟩ := H
        obtain ⟨Ao18, co18, eo18⟩ := Kd.R_slice HO_8.out
        subst eo18
        go_wp2
        go_ret2
        exact ⟨_, by first | rfl | (simp [errW_none, errW_some] <;> rfl) | (simp [*, errW_none, errW_some] <;> rfl), by (with_reducible repeat (first | apply Kd.R_alloc | apply Kd.R_drewN | apply Kd.R_drew)); exact HO_8.out, by repeat (first | (with_reducible first | exact HB.out | apply below_alloc | apply pw_below_drewN | apply below_drew1) | exact HB.out)⟩
end Go.Proofs.YtfnhjoemmiepiaaDoor.Q
namespace Go.Proofs.YtfnhjoemmiepiaaDoor.Pure
open Go.RowKit Go.Proofs.YtfnhjoemmiepiaaDoor.Ext Go.Proofs.YtfnhjoemmiepiaaDoor.Q Go.Proofs.YtfnhjoemmiepiaaDoor.Num Go.Proofs.YtfnhjoemmiepiaaDoorW.PrintWords Go.Proofs.YtfnhjoemmiepiaaDoorW.PrintLast Go.Proofs.YtfnhjoemmiepiaaDoorW.PrintMore
set_option linter.unusedVariables false
set_option linter.unusedSimpArgs false
set_option maxRecDepth 100000
def numsEnd (many : Nat) (acc : List Int) : Option (List Int) → List Int × Bool
  | some l => (acc ++ l, (((acc ++ l).length : Nat) : Int) == (many : Int))
  | none => ([], false)
theorem rdW_get (l : List ByteArray) (i : Nat) (h : i < l.length) : rdOf ByteArray.empty l (i : Int) = l[i] := by
  unfold rdOf
  rw [Int.toNat_natCast, List.getD_eq_getElem?_getD, List.getElem?_eq_getElem h]
  rfl
theorem numbersOf_l0 (ws : List ByteArray) (many most : Nat) (hm : most ≤ 1000000) (hw : ∀ x ∈ ws, x.size ≤ 1048576) (hl : ws.length ≤ 2000000) : ∀ (d k i : Nat) (acc : List Int), i + d = ws.length → d < k → acc.length ≤ i →
    impl_numbersOf.l0 k (many : Int) (most : Int) acc ws (ws.length : Int) (i : Int) = some (numsEnd many acc (nums most (ws.drop i)))
  | 0, k, i, acc, hd, hk, ha => by
    obtain ⟨k, rfl⟩ := somek hk
    rw [impl_numbersOf.l0, if_neg (by omega), List.drop_eq_nil_of_le (by omega)]
    simp [nums, numsEnd]
  | d + 1, k, i, acc, hd, hk, ha => by
    obtain ⟨k, rfl⟩ := somek hk
    have hi : i < ws.length := by omega
    rw [impl_numbersOf.l0, if_pos (by omega), if_pos (by omega), if_pos (by omega), rdW_get ws i hi, List.drop_eq_getElem_cons hi]
    unfold impl_number.f
    rw [if_pos ⟨hw _ (List.getElem_mem hi), by omega, by omega⟩, Option.bind_some, Int.toNat_natCast]
    unfold numR
    simp only [nums]
    cases hq : numB most ws[i].data.toList with
    | none =>
      simp only []
      rw [if_neg (by simp)]
      rfl
    | some n =>
      simp only []
      rw [if_pos trivial, if_pos (by omega), wrap_s i (by omega), numbersOf_l0 ws many most hm hw hl d k (i + 1) _ (by omega) (by omega) (by simp; omega)]
      cases nums most (ws.drop (i + 1)) with
      | none => rfl
      | some r => simp [numsEnd]
theorem numbersOf_eq (s : ByteArray) (hs : s.size ≤ 1048576) (many most : Nat) (hm : most ≤ 1000000) {k : Nat} (hk : 1048600 < k) : impl_numbersOf.f k s (many : Int) (most : Int) = some (numsEnd many [] (nums most (wordsAt 32 s))) := by
  unfold impl_numbersOf.f strings_Split.f
  have hl := words_len 32 s
  rw [if_pos (show _ ∧ _ from ⟨rfl, by omega⟩), Option.bind_some]
  have := numbersOf_l0 (wordsAt 32 s) many most hm (fun x hx => by have := words_size 32 s x hx; omega) (by omega) (wordsAt 32 s).length k 0 [] (by omega) (by omega) (by simp)
  rw [List.drop_zero] at this
  exact this
end Go.Proofs.YtfnhjoemmiepiaaDoor.Pure
namespace Go.Proofs.YtfnhjoemmiepiaaDoor.Ext
open Go.RowKit Go.Proofs.YtfnhjoemmiepiaaDoorW.PrintWords Go.Proofs.YtfnhjoemmiepiaaDoorW.PrintLast Go.Proofs.YtfnhjoemmiepiaaDoorW.PrintMore
set_option linter.unusedVariables false
set_option linter.unusedSimpArgs false
def cellsK (k : IntKind) (l : List Int) : Array Value := (nums k l).toArray
theorem cellsK_size (k : IntKind) (l : List Int) : (cellsK k l).size = l.length := by simp [cellsK, nums]
theorem cellsK_get (k : IntKind) (l : List Int) (n : Nat) (h : n < l.length) : (cellsK k l)[n]? = some (.int k (rd l n)) := by
  simp [cellsK, nums, rd, List.getD_eq_getElem?_getD, List.getElem?_eq_getElem h]
theorem cellsK_one (k : IntKind) (l : List Int) : (cellsK k l).all (·.oneCell') = true := by
  rw [Array.all_eq_true_iff_forall_mem]
  intro v hv
  simp only [cellsK, nums, List.mem_toArray, List.mem_map] at hv
  obtain ⟨x, _, rfl⟩ := hv
  rfl
theorem cellsK_set (k : IntKind) (l : List Int) (n : Nat) (x : Int) : (cellsK k l).setIfInBounds n (.int k x) = cellsK k (l.set n x) := by
  simp [cellsK, nums, List.map_set]
theorem cellsK_cell {w : World} {g : Nat} {t : TypeId} {k : IntKind} {l : List Int} (h : w.heap[g]? = some (.cells (cellsK k l) t (0, 0))) (n : Nat) (hn : n < l.length) : w.cell? ⟨g, n, none⟩ = some (.int k (rd l n)) :=
  (blk_cell h n).trans (cellsK_get k l n hn)
theorem blk_at {W : World} {n : Nat} (h : W.heap.size = n) (o : Obj) : (W.alloc o).heap[n]? = some o := by subst h; exact blk_new W o
section
variable {P : Program} {ops : Array Oper} {rest : List Oper} {o : Oper} {a : Act} {Q : Exit → Act → World → Prop} {W : World}
theorem ev_store_row (hgd : o.guard = none) (ty : TypeId) (x y : Operand) (ho : o.op = .store ty x y) (hN : o.dst = none)
    (g : Nat) (cells : Array Value) (hx : a.eval x = .pointer (some ⟨g, 0, none⟩)) (hy : a.eval y = .agg cells)
    (t : TypeId) (old : Array Value) (hg : W.heap[g]? = some (.cells old t (0, 0))) (hi : (P.info? ty).map (·.size) = some cells.size)
    (hold : old.size = cells.size) (h1 : cells.all (·.oneCell') = true)
    (h : ∀ w1, w1.heap[g]? = some (.cells cells t (0, 0)) → Kept W w1 (fun k => k = g) → (∀ B, B ≤ g → Below B W w1) → wpList P ops Q rest a w1) : wpList P ops Q (o :: rest) a W := by
  refine wpList_store_row hgd ty x y ho g cells hx hy t old hg hi hold h1 ?_
  rw [hN]
  refine h _ (setRow_heap W g old cells t (0, 0) hg) ⟨by simp, fun i hi hn => setRow_other W g i cells hn⟩ (fun B hB => ⟨rfl, rfl, rfl, by simp, fun k hk => setRow_other W g k cells (by omega)⟩)
theorem ev_load_at (hgd : o.guard = none) (ty : TypeId) (x : Operand) (ho : o.op = .load ty x)
    (g off n : Nat) (k : IntKind) (L : List Int) (hx : a.eval x = .pointer (some ⟨g, off, none⟩)) (t : TypeId) (d : TypeDesc) (hg : W.heap[g]? = some (.cells (cellsK k L) t (0, 0)))
    (hu : P.underlying ty = some d) (hd : d.isRow = true) (hfit : off + n ≤ L.length) (hi : (P.info? ty).map (·.size) = some n)
    (h : wpList P ops Q rest (a.put o.dst (.agg (cellsK k ((L.drop off).take n)))) W) : wpList P ops Q (o :: rest) a W := by
  refine wpList_load_mid hgd ty x ho g off hx (nums k ((L.drop off).take n)) d ?_ hu hd (by rw [hi]; simp [nums]; omega) h
  intro j v hj
  have hj' : j < n := by
    have := (List.getElem?_eq_some_iff.1 hj).1
    simp [nums] at this; omega
  have h1 := cellsK_cell hg (off + j) (by omega)
  have h2 : (nums k ((L.drop off).take n))[j]? = some (.int k (rd L ((off + j : Nat) : Int))) := by
    have h3 : off + j < L.length := by omega
    have h4 : rd L ((off + j : Nat) : Int) = L[off + j] := by simp only [rd, Int.toNat_natCast, List.getD_eq_getElem?_getD, List.getElem?_eq_getElem h3, Option.getD_some]
    rw [h4]
    simp only [nums, List.getElem?_map, List.getElem?_take, hj', List.getElem?_drop, List.getElem?_eq_getElem h3, if_true, Option.map_some]
  rw [h2] at hj
  rw [← hj]
  exact h1
end
open Go.RowKit Go.Proofs.YtfnhjoemmiepiaaDoorW.PrintWords Go.Proofs.YtfnhjoemmiepiaaDoorW.PrintLast Go.Proofs.YtfnhjoemmiepiaaDoorW.PrintMore
set_option linter.unusedVariables false
set_option linter.unusedSimpArgs false
open Go.RowKit Go.Proofs.YtfnhjoemmiepiaaDoor.Q Go.Proofs.YtfnhjoemmiepiaaDoor.Num Go.Proofs.YtfnhjoemmiepiaaDoorW.PrintWords Go.Proofs.YtfnhjoemmiepiaaDoorW.PrintLast Go.Proofs.YtfnhjoemmiepiaaDoorW.PrintMore
theorem res_row_tmp {P : Program} {fn : Func} {p u : Tmp} {ty : TypeId} (h : fn.results = #[.cell p ty, .tmp u]) (tmps : Array Value) (w : World) (g : Nat) (t : TypeId) (cs : Array Value) (fr : Nat × Nat) (d : TypeDesc)
    (hp : tmps.getD p undef = .pointer (some ⟨g, 0, none⟩)) (hg : w.heap[g]? = some (.cells cs t fr))
    (hu : P.underlying ty = some d) (hd : (match d with | .struct _ | .array _ _ => true | _ => false) = true) (hi : (P.info? ty).map (·.size) = some cs.size) :
    (results fn tmps).run P w = .ok (.tuple #[.agg cs, tmps.getD u undef]) w := by
  rw [results_cell_tmp h, hp]
  simp [asAddr, run_loadVar_row w g t ty cs fr d hg hu hd hi]
def pad (n : Nat) (l : List Int) : List Int := l ++ List.replicate (n - l.length) 0
theorem pad_len {n : Nat} {l : List Int} (h : l.length ≤ n) : (pad n l).length = n := by unfold pad; simp; omega
theorem pad_nil (n : Nat) : pad n [] = List.replicate n 0 := by simp [pad]
theorem pad_full {n : Nat} {l : List Int} (h : l.length = n) : pad n l = l := by simp [pad, h]
theorem pad_set {n : Nat} {l : List Int} (x : Int) (h : l.length < n) : (pad n l).set l.length x = pad n (l ++ [x]) := by
  unfold pad
  obtain ⟨m, hm⟩ : ∃ m, n - l.length = m + 1 := ⟨n - l.length - 1, by omega⟩
  rw [hm, show n - (l ++ [x]).length = m by simp; omega, List.set_append_right _ _ (Nat.le_refl _), Nat.sub_self, List.replicate_succ, List.set_cons_zero, List.append_assoc]
  rfl
theorem nums_step {ws rest : List ByteArray} {x : ByteArray} {pre : List Int} {most n : Nat} (h : Pure.nums most ws = (Pure.nums most (x :: rest)).map (fun r => pre ++ r)) (hn : numB most x.data.toList = some n) : Pure.nums most ws = (Pure.nums most rest).map (fun r => (pre ++ [(n : Int)]) ++ r) := by
  rw [h]
  simp only [Pure.nums, hn]
  cases Pure.nums most rest with
  | none => rfl
  | some r => simp
theorem nums_stop {ws rest : List ByteArray} {x : ByteArray} {pre : List Int} {most : Nat} (h : Pure.nums most ws = (Pure.nums most (x :: rest)).map (fun r => pre ++ r)) (hn : numB most x.data.toList = none) : Pure.nums most ws = none := by
  rw [h]
  simp only [Pure.nums, hn]
  rfl
theorem nums_end {ws : List ByteArray} {pre : List Int} {most : Nat} (h : Pure.nums most ws = (Pure.nums most ([] : List ByteArray)).map (fun r => pre ++ r)) : Pure.nums most ws = some pre := by
  rw [h]
  simp [Pure.nums]
theorem drop_consW (l : List ByteArray) (k : Nat) (h : k < l.length) : l.drop k = rdOf ByteArray.empty l (k : Int) :: l.drop (k + 1) := by
  rw [List.drop_eq_getElem_cons h, Pure.rdW_get l k h]
theorem info_rp : (Tryd.prog.info? 44).map (·.size) = some 29 := by kernel_rfl
theorem info_rpl {l : List Int} (h : l.length = 29) : (Tryd.prog.info? 44).map (·.size) = some (cellsK .i16 l).size := by rw [cellsK_size, h]; exact info_rp
theorem cellBw_ {w w1 : World} (hb : Below w.heap.size w w1) {p : Addr} {v : Value} (h : w.cell? p = some v) : w1.cell? p = some v := (hb.cell (World.block_lt_of_cell? w _ h)).trans h
theorem exec_store_rowx {P : Program} {a : Act} {oi : Oper} {w : World} (ty : TypeId) (x y : Operand) (ho : oi.op = .store ty x y)
    (g : Nat) (cells : Array Value) (hx : a.eval x = .pointer (some ⟨g, 0, none⟩)) (hy : a.eval y = .agg cells)
    (t : TypeId) (old : Array Value) (hg : w.heap[g]? = some (.cells old t (0, 0))) (hi : (P.info? ty).map (·.size) = some cells.size) (hold : old.size = cells.size) (h1 : cells.all (·.oneCell') = true) :
    (execOp a.eval oi).run P w = .ok .skip (w.setRow g cells) := by
  unfold execOp
  simp only [ho, hx, hy, Instr.storeAt, Instr.sureAddr, Sem.run_bind, Sem.run_pure, Result.andThen_ok, run_storeVar_row w g t ty old cells hg hi hold h1]
theorem R_neB {α : Type} {d : Kd α} {e base : Nat} {w : World} {ok : Nat → Prop} {v : Value} {xs : List α} (h : d.R e w base ok v xs) {g : Nat} {o : Obj} (hb : w.heap[g]? = some o) (ho : ∀ cells, o ≠ .cells cells e (0, 0)) : some g ≠ v.ownBlock := by
  intro hc
  obtain ⟨inner, h'⟩ := Kd.R_own h
  obtain ⟨cells, hcell⟩ := own_typed h' g hc.symm
  rw [hcell] at hb
  injection hb with hb
  exact ho cells hb.symm
theorem apart_rd {α : Type} {d : Kd α} {e base : Nat} {w : World} {ok : Nat → Prop} {A : Option Addr} {n c : Nat} {xs : List α} (h : d.R e w base ok (.slice A n c) xs) {g : Nat} {o : Obj} (hb : w.heap[g]? = some o) (ho : ∀ cells, o ≠ .cells cells e (0, 0)) : ∀ ad, A = some ad → 0 < n → ad.block ≠ g := by
  rintro ad rfl hn he
  exact R_neB h hb ho (by simp [Value.ownBlock, he, hn])
def rpE : List Int × Int := (List.replicate 29 0, 5)
def rpL (l : List Int) : List Int × Int := if l.length = 29 then (l, 0) else rpE
def rpC (s : ByteArray) : List Int × Int := match Pure.nums 1000 (Pure.wordsAt 32 s) with
  | some l => rpL l
  | none => rpE
theorem rp_none {s : ByteArray} (h : Pure.nums 1000 (Pure.wordsAt 32 s) = none) : rpC s = rpE := by unfold rpC; rw [h]
theorem rp_len {s : ByteArray} {l : List Int} (h : Pure.nums 1000 (Pure.wordsAt 32 s) = some l) (h2 : ¬ l.length = 29) : rpC s = rpE := by unfold rpC rpL; rw [h]; simp only []; rw [if_neg h2]
theorem rp_ok {s : ByteArray} {l : List Int} (h : Pure.nums 1000 (Pure.wordsAt 32 s) = some l) (h1 : l.length = 29) : rpC s = (l, 0) := by unfold rpC rpL; rw [h]; simp only []; rw [if_pos h1]
theorem rpC_len (s : ByteArray) : (rpC s).1.length = 29 := by
  unfold rpC
  cases h : Pure.nums 1000 (Pure.wordsAt 32 s) with
  | none => rfl
  | some l =>
    simp only [rpL]
    split
    · rename_i hc; exact hc
    · rfl
theorem w16 {x : Int} (h : 0 ≤ x ∧ x ≤ (1000 : Nat)) : IntKind.i16.wrap x = x := by
  simp [IntKind.wrap, IntKind.signed, IntKind.bits]
  omega
theorem pad_take {R : List Int} {k : Nat} (hR : R.length = 29) (h : k < 29) : (pad 29 (R.take k)).set k (rd R k) = pad 29 (R.take (k + 1)) := by
  have hl : (R.take k).length = k := by rw [List.length_take]; omega
  have := pad_set (n := 29) (l := R.take k) (rd R k) (by omega)
  rw [hl] at this
  rw [this, List.take_succ_eq_append_getElem (by omega)]
  congr 2
  unfold rd
  rw [Int.toNat_natCast, List.getD_eq_getElem?_getD, List.getElem?_eq_getElem (by omega)]
  rfl
theorem mem_rd (R : List Int) (k : Nat) (h : k < R.length) : rd R k ∈ R := by
  unfold rd
  rw [Int.toNat_natCast, List.getD_eq_getElem?_getD, List.getElem?_eq_getElem h]
  exact List.getElem_mem h
set_option maxHeartbeats 4000000 in
set_option maxRecDepth 100000 in
theorem implRdp_calls (s : ByteArray) (hs : s.size ≤ 1048576) (w : World) (hG : GlobOk w) :
    Calls Tryd.prog 17 #[.string s] w fun e w' => e = .returned (.tuple #[.agg (cellsK .i16 (rpC s).1), .int .i64 (rpC s).2]) ∧ Below w.heap.size w w' := by
  have HS := Aside0.mk hs
  have HG := Aside0.mk hG
  have HB := Aside0.mk (Below.refl w.heap.size w)
  clear hs hG
  have hnf := Pure.numbersOf_eq s HS.out 29 1000 (by omega) (k := 1048700) (by omega)
  obtain ⟨R, hR⟩ : ∃ R, Pure.numsEnd 29 [] (Pure.nums 1000 (Pure.wordsAt 32 s)) = R := ⟨_, rfl⟩
  rw [hR] at hnf
  obtain ⟨R1, R2⟩ := R
  have HNF := Aside0.mk hnf
  have HRR := Aside0.mk hR
  clear hnf hR
  go_enter Tryd.func17, Tryd.ntmps17
  go_wp2_with (first
    | ((with_reducible refine gate_dst (N := 2) rfl ?_); refine box_event ?hg (N := 2) ?hd (cs := #[.int .i16 0, .int .i16 0, .int .i16 0, .int .i16 0, .int .i16 0, .int .i16 0, .int .i16 0, .int .i16 0, .int .i16 0, .int .i16 0, .int .i16 0, .int .i16 0, .int .i16 0, .int .i16 0, .int .i16 0, .int .i16 0, .int .i16 0, .int .i16 0, .int .i16 0, .int .i16 0, .int .i16 0, .int .i16 0, .int .i16 0, .int .i16 0, .int .i16 0, .int .i16 0, .int .i16 0, .int .i16 0, .int .i16 0]) (t := 44) ?hr ?_; (case hd => rfl); (case hg => rfl); (case hr => first | (go_simp; done) | (go_simp; rfl)); intro g2 hg w2 hbox hb; have G2 := Aside0.mk (show w.heap.size ≤ g2 from by rw [hg]; exact HB.out.size); skip; have n0_ := Aside0.mk (below_step HB.out hb); clear HB; have HB := n0_; clear n0_; have B2 : Aside0 (w2.heap[g2]? = some (.cells (cellsK .i16 (List.replicate 29 0)) 44 (0, 0))) := ⟨hbox⟩; clear hg hb hbox)
    | ((with_reducible refine gate_dst (N := 4) rfl ?_); refine box_event ?hg (N := 4) ?hd (cs := #[.int .i16 0, .int .i16 0, .int .i16 0, .int .i16 0, .int .i16 0, .int .i16 0, .int .i16 0, .int .i16 0, .int .i16 0, .int .i16 0, .int .i16 0, .int .i16 0, .int .i16 0, .int .i16 0, .int .i16 0, .int .i16 0, .int .i16 0, .int .i16 0, .int .i16 0, .int .i16 0, .int .i16 0, .int .i16 0, .int .i16 0, .int .i16 0, .int .i16 0, .int .i16 0, .int .i16 0, .int .i16 0, .int .i16 0]) (t := 44) ?hr ?_; (case hd => rfl); (case hg => rfl); (case hr => first | (go_simp; done) | (go_simp; rfl)); intro g4 hg w3 hbox hb; have G4 := Aside0.mk (show w.heap.size ≤ g4 from by rw [hg]; exact HB.out.size); have NB24 := Aside0.mk (show g2 ≠ g4 from by rw [hg]; exact Nat.ne_of_lt (blk_lt B2.out)); have n2_ := Aside0.mk (blk_below B2.out hb); clear B2; have B2 := n2_; clear n2_; have n0_ := Aside0.mk (below_step HB.out hb); clear HB; have HB := n0_; clear n0_; have B4 : Aside0 (w3.heap[g4]? = some (.cells (cellsK .i16 (List.replicate 29 0)) 44 (0, 0))) := ⟨hbox⟩; clear hg hb hbox)
    | ((with_reducible refine gate_store (t := 44) (p := 4) rfl ?_); refine ev_store_row rfl 44 (.tmp 4) (.tmp 8) rfl rfl g4 (cellsK .i16 (List.replicate 29 0)) rfl rfl _ _ B4.out (info_rpl (by simp)) rfl (cellsK_one _ _) ?_; intro w4 hb1 hk hbel; have n2_ := Aside0.mk ((hk.2 g2 (blk_lt B2.out) NB24.out).trans B2.out); clear B2; have B2 := n2_; clear n2_; have n0_ := Aside0.mk (HB.out.trans (hbel _ G4.out)); clear HB; have HB := n0_; clear n0_; have n1_ := Aside0.mk hb1; clear B4; have B4 := n1_; clear n1_ hb1 hk hbel))
  refine (impl_numbersOf.calls 1048700 s 29 1000 R1 R2 _ (HG.out.below HB.out) HNF.out).mono ?_
  rintro e w5 ⟨v0, rfl, ho, hb⟩
  have HO := Aside0.mk (Kd.R_lower ho HB.out.size)
  replace B2 := Aside0.mk (blk_below B2.out hb)
  replace B4 := Aside0.mk (blk_below B4.out hb)
  replace HB := Aside0.mk (below_step HB.out hb)
  clear ho hb HNF
  cases hn : Pure.nums 1000 (Pure.wordsAt 32 s) with
  | none =>
    have HE := Aside0.mk (rp_none hn)
    rw [hn] at HRR
    have h2 : R2 = false := (congrArg Prod.snd HRR.out).symm
    subst h2
    clear hn HRR B4
    go_wp2_with (first | ((with_reducible refine gate_store (t := 44) (p := 2) rfl ?_); refine ev_store_row rfl 44 (.tmp 2) (.tmp 16) rfl rfl g2 (cellsK .i16 (List.replicate 29 0)) rfl rfl _ _ B2.out (info_rpl (by simp)) rfl (cellsK_one _ _) ?_; intro w7 hb1 hk hbel; skip; have n0_ := Aside0.mk (HB.out.trans (hbel _ G2.out)); clear HB; have HB := n0_; clear n0_; have n1_ := Aside0.mk hb1; clear B2; have B2 := n1_; clear n1_ hb1 hk hbel))
    refine bodyPost_ret (res_row_tmp rfl _ _ g2 _ _ (0, 0) _ rfl B2.out Tryd.underlying44 rfl (info_rpl (by simp))) rfl ⟨?_, HB.out⟩
    rw [HE.out]; rfl
  | some l =>
    rw [hn] at HRR
    have h1 : R1 = l := by have := congrArg Prod.fst HRR.out; simp [Pure.numsEnd] at this; exact this.symm
    subst h1
    have HN := Aside0.mk hn
    have HNR := Aside0.mk (Pure.nums_rng hn).2
    clear hn
    by_cases h29 : R1.length = 29
    · have h2 : R2 = true := by have := congrArg Prod.snd HRR.out; simp [Pure.numsEnd, h29] at this; exact this
      subst h2
      have H29 := Aside0.mk h29
      have HE := Aside0.mk (rp_ok HN.out h29)
      clear HRR h29 HN
      obtain ⟨A0, c0, rfl, hc0, hr0⟩ := Kd.R_reads HO.out
      have HO2 : Aside0 (Kd.R (Kd.int .i64) 2 w5 w.heap.size (fun _ => True) (.slice A0 29 c0) R1) := ⟨by have := HO.out; rw [H29.out] at this; exact this⟩
      clear HO hr0 hc0
      have HO := HO2
      clear HO2
      simp only [H29.out]
      go_wp2_with fail
      go_loopg [7, 17] 26 (fun gg _ s17 wr => ∃ kk : Nat, kk ≤ 26 ∧ 26 - kk ≤ gg ∧ s17 = .int .i64 kk ∧ Aside0 (Kd.R (Kd.int .i64) 2 wr w.heap.size (fun _ => True) (.slice A0 29 c0) R1) ∧ Aside0 (wr.heap[g2]? = some (.cells (cellsK .i16 (List.replicate 29 0)) 44 (0, 0))) ∧ Aside0 (wr.heap[g4]? = some (.cells (cellsK .i16 (pad 29 (R1.take kk))) 44 (0, 0))) ∧ Aside0 (Below w.heap.size w wr))
      case atStart => exact ⟨0, by omega, by omega, rfl, HO, B2, ⟨by rw [List.take_zero, pad_nil]; exact B4.out⟩, HB⟩
      case round =>
        clear HO B2 B4 HB
        obtain ⟨kk, hkk, hgk, rfl, HO, B2, B4, HB⟩ := hrel
        by_cases hlt : kk < 26
        · have hltz : (kk : Int) < 26 := by omega
          have hlt29 : (kk : Int) < 29 := by omega
          obtain ⟨ad, hA, hx⟩ := Kd.at_int (Kd.R_reads' HO.out).2.2 kk (by omega) (by have := H29.out; omega)
          subst hA
          rw [Int.toNat_natCast] at hx
          have HX := Aside0.mk (HNR.out (rd R1 kk) (mem_rd R1 kk (by rw [H29.out]; omega)))
          have hc4 : wr.cell? ⟨g4, kk, none⟩ = some (.int .i16 (rd (pad 29 (R1.take kk)) kk)) := cellsK_cell B4.out kk (by rw [pad_len (by rw [List.length_take]; omega)]; omega)
          have hf4 : wr.frozen? ⟨g4, kk, none⟩ = false := blk_frozen B4.out kk
          have HCS := Aside0.mk (pad_take (k := kk) H29.out (by omega))
          generalize rd (pad 29 (R1.take kk)) kk = old at hc4
          generalize rd R1 kk = x at hx HX HCS
          have hx8 : IntKind.i16.wrap x = x := w16 HX.out
          go_wp2
          go_roundg (26 - (kk + 1))
          case measure => omega
          case rel =>
            refine ⟨kk + 1, by omega, by omega, by go_num, ⟨?_⟩, ⟨?_⟩, ⟨?_⟩, ⟨?_⟩⟩
            · exact Kd.R_mono (Kd.R_far (p := ⟨g4, kk, none⟩) (Kd.R_types HO.out B4.out (by decide)) (fun _ hk => hk.2) _) (fun _ _ => trivial)
            · exact blk_far B2.out NB24.out _
            · have := blk_set B4.out kk (.int .i16 x)
              rw [cellsK_set, HCS.out] at this
              exact this
            · exact below_set HB.out G4.out
        · obtain rfl : kk = 26 := by omega
          obtain ⟨ad, hA, hc26⟩ := Kd.at_int (Kd.R_reads' HO.out).2.2 ((26 : Nat) : Int) (by omega) (by have := H29.out; omega)
          obtain ⟨ad7, hA7, hc27⟩ := Kd.at_int (Kd.R_reads' HO.out).2.2 ((27 : Nat) : Int) (by omega) (by have := H29.out; omega)
          obtain ⟨ad8, hA8, hc28⟩ := Kd.at_int (Kd.R_reads' HO.out).2.2 ((28 : Nat) : Int) (by omega) (by have := H29.out; omega)
          have HAP := Aside0.mk (apart_rd HO.out B4.out (by simp) ad hA (by omega))
          subst hA
          obtain rfl : ad = ad7 := Option.some.inj hA7
          obtain rfl : ad = ad8 := Option.some.inj hA8
          clear hA7 hA8 HO
          rw [Int.toNat_natCast] at hc26 hc27 hc28
          have X26 := Aside0.mk (HNR.out (rd R1 ((26 : Nat) : Int)) (mem_rd R1 26 (by rw [H29.out]; omega)))
          have X27 := Aside0.mk (HNR.out (rd R1 ((27 : Nat) : Int)) (mem_rd R1 27 (by rw [H29.out]; omega)))
          have X28 := Aside0.mk (HNR.out (rd R1 ((28 : Nat) : Int)) (mem_rd R1 28 (by rw [H29.out]; omega)))
          have hc26 : wr.cell? ⟨ad.block, ad.off + 26, none⟩ = _ := hc26
          have hc27 : wr.cell? ⟨ad.block, ad.off + 27, none⟩ = _ := hc27
          have hc28 : wr.cell? ⟨ad.block, ad.off + 28, none⟩ = _ := hc28
          have P26 := Aside0.mk (pad_take (R := R1) (k := 26) H29.out (by omega))
          have P27 := Aside0.mk (pad_take (R := R1) (k := 27) H29.out (by omega))
          have P28 := Aside0.mk (pad_take (R := R1) (k := 28) H29.out (by omega))
          generalize rd R1 ((26 : Nat) : Int) = x26 at hc26 X26 P26
          generalize rd R1 ((27 : Nat) : Int) = x27 at hc27 X27 P27
          generalize rd R1 ((28 : Nat) : Int) = x28 at hc28 X28 P28
          have hx26 : IntKind.i16.wrap x26 = x26 := w16 X26.out
          have hx27 : IntKind.i16.wrap x27 = x27 := w16 X27.out
          have hx28 : IntKind.i16.wrap x28 = x28 := w16 X28.out
          go_wp2_with fail
          refine start_ (n := 18) (S := fun w' => w'.cell? ⟨ad.block, ad.off + 26, none⟩ = some (.int .i64 x26) ∧ w'.cell? ⟨ad.block, ad.off + 27, none⟩ = some (.int .i64 x27) ∧ w'.cell? ⟨ad.block, ad.off + 28, none⟩ = some (.int .i64 x28)) (ds := [17]) #[false, false, false, false, false, false, false, false, false, false, false, false, false, false, false, false, false, false] (by kernel_rfl) rfl rfl ⟨(cellBw_ (below_drew (Below.refl _ _)) hc26), (cellBw_ (below_drew (Below.refl _ _)) hc27), (cellBw_ (below_drew (Below.refl _ _)) hc28)⟩ (fun hHeld => ?_)
          refine pure_ (i := 0) (N := some 29) (v := ?_) (a' := ?_) #[true, false, false, false, false, false, false, false, false, false, false, false, false, false, false, false, false, false] rfl rfl (by kernel_rfl) (fun _ _ _ h => h) (Or.inl ⟨by rfl, ?_⟩) ?_ ?_
          rotate_left
          · intro w'
            go_simp
            with_reducible rfl
          rotate_left
          · simp only [Act.put, List.setIfInBounds_toArray, List.set_cons_zero, List.set_cons_succ, i64_w, i32_w]
            rfl
          refine pure_ (i := 1) (N := some 30) (v := ?_) (a' := ?_) #[true, true, false, false, false, false, false, false, false, false, false, false, false, false, false, false, false, false] rfl rfl (by kernel_rfl) (fun _ _ _ h => h) (Or.inl ⟨by rfl, ?_⟩) ?_ ?_
          rotate_left
          · intro w'
            go_simp
            with_reducible rfl
          rotate_left
          · simp only [Act.put, List.setIfInBounds_toArray, List.set_cons_zero, List.set_cons_succ, i64_w, i32_w]
            rfl
          refine pure_ (i := 4) (N := some 33) (v := ?_) (a' := ?_) #[true, true, false, false, true, false, false, false, false, false, false, false, false, false, false, false, false, false] rfl rfl (by kernel_rfl) (fun _ _ _ h => h) (Or.inl ⟨by rfl, ?_⟩) ?_ ?_
          rotate_left
          · intro w'
            go_simp
            with_reducible rfl
          rotate_left
          · simp only [Act.put, List.setIfInBounds_toArray, List.set_cons_zero, List.set_cons_succ, i64_w, i32_w]
            rfl
          refine pure_ (i := 5) (N := some 34) (v := ?_) (a' := ?_) #[true, true, false, false, true, true, false, false, false, false, false, false, false, false, false, false, false, false] rfl rfl (by kernel_rfl) (fun _ _ _ h => h) (Or.inl ⟨by rfl, ?_⟩) ?_ ?_
          rotate_left
          · intro w'
            go_simp
            with_reducible rfl
          rotate_left
          · simp only [Act.put, List.setIfInBounds_toArray, List.set_cons_zero, List.set_cons_succ, i64_w, i32_w]
            rfl
          refine pure_ (i := 8) (N := some 37) (v := ?_) (a' := ?_) #[true, true, false, false, true, true, false, false, true, false, false, false, false, false, false, false, false, false] rfl rfl (by kernel_rfl) (fun _ _ _ h => h) (Or.inl ⟨by rfl, ?_⟩) ?_ ?_
          rotate_left
          · intro w'
            go_simp
            with_reducible rfl
          rotate_left
          · simp only [Act.put, List.setIfInBounds_toArray, List.set_cons_zero, List.set_cons_succ, i64_w, i32_w]
            rfl
          refine pure_ (i := 9) (N := some 38) (v := ?_) (a' := ?_) #[true, true, false, false, true, true, false, false, true, true, false, false, false, false, false, false, false, false] rfl rfl (by kernel_rfl) (fun _ _ _ h => h) (Or.inl ⟨by rfl, ?_⟩) ?_ ?_
          rotate_left
          · intro w'
            go_simp
            with_reducible rfl
          rotate_left
          · simp only [Act.put, List.setIfInBounds_toArray, List.set_cons_zero, List.set_cons_succ, i64_w, i32_w]
            rfl
          refine take_ (i := 2) (N := some 31) (v := ?_) (a' := ?_) #[true, true, true, false, true, true, false, false, true, true, false, false, false, false, false, false, false, false] rfl rfl (by kernel_rfl) (fun _ _ _ h => h) (Or.inl ⟨by rfl, ?_⟩) hHeld ?_ ?_
          rotate_left
          · rintro w' ⟨s0, s1, s2⟩
            go_simp
            with_reducible rfl
          rotate_left
          · simp only [Act.put, List.setIfInBounds_toArray, List.set_cons_zero, List.set_cons_succ, i64_w, i32_w]
            rfl
          refine pure_ (i := 3) (N := some 32) (v := ?_) (a' := ?_) #[true, true, true, true, true, true, false, false, true, true, false, false, false, false, false, false, false, false] rfl rfl (by kernel_rfl) (fun _ _ _ h => h) (Or.inl ⟨by rfl, ?_⟩) ?_ ?_
          rotate_left
          · intro w'
            go_simp
            with_reducible rfl
          rotate_left
          · simp only [Act.put, List.setIfInBounds_toArray, List.set_cons_zero, List.set_cons_succ, i64_w, i32_w]
            rfl
          refine pure_ (i := 12) (N := some 41) (v := ?_) (a' := ?_) #[true, true, true, true, true, true, false, false, true, true, false, false, true, false, false, false, false, false] rfl rfl (by kernel_rfl) (fun _ _ _ h => h) (Or.inl ⟨by rfl, ?_⟩) ?_ ?_
          rotate_left
          · intro w'
            go_simp
            with_reducible rfl
          rotate_left
          · simp only [Act.put, List.setIfInBounds_toArray, List.set_cons_zero, List.set_cons_succ, i64_w, i32_w]
            rfl
          refine take_ (i := 6) (N := some 35) (v := ?_) (a' := ?_) #[true, true, true, true, true, true, true, false, true, true, false, false, true, false, false, false, false, false] rfl rfl (by kernel_rfl) (fun _ _ _ h => h) (Or.inl ⟨by rfl, ?_⟩) hHeld ?_ ?_
          rotate_left
          · rintro w' ⟨s0, s1, s2⟩
            go_simp
            with_reducible rfl
          rotate_left
          · simp only [Act.put, List.setIfInBounds_toArray, List.set_cons_zero, List.set_cons_succ, i64_w, i32_w]
            rfl
          refine pure_ (i := 7) (N := some 36) (v := ?_) (a' := ?_) #[true, true, true, true, true, true, true, true, true, true, false, false, true, false, false, false, false, false] rfl rfl (by kernel_rfl) (fun _ _ _ h => h) (Or.inl ⟨by rfl, ?_⟩) ?_ ?_
          rotate_left
          · intro w'
            go_simp
            with_reducible rfl
          rotate_left
          · simp only [Act.put, List.setIfInBounds_toArray, List.set_cons_zero, List.set_cons_succ, i64_w, i32_w]
            rfl
          refine take_ (i := 10) (N := some 39) (v := ?_) (a' := ?_) #[true, true, true, true, true, true, true, true, true, true, true, false, true, false, false, false, false, false] rfl rfl (by kernel_rfl) (fun _ _ _ h => h) (Or.inl ⟨by rfl, ?_⟩) hHeld ?_ ?_
          rotate_left
          · rintro w' ⟨s0, s1, s2⟩
            go_simp
            with_reducible rfl
          rotate_left
          · simp only [Act.put, List.setIfInBounds_toArray, List.set_cons_zero, List.set_cons_succ, i64_w, i32_w]
            rfl
          refine pure_ (i := 11) (N := some 40) (v := ?_) (a' := ?_) #[true, true, true, true, true, true, true, true, true, true, true, true, true, false, false, false, false, false] rfl rfl (by kernel_rfl) (fun _ _ _ h => h) (Or.inl ⟨by rfl, ?_⟩) ?_ ?_
          rotate_left
          · intro w'
            go_simp
            with_reducible rfl
          rotate_left
          · simp only [Act.put, List.setIfInBounds_toArray, List.set_cons_zero, List.set_cons_succ, i64_w, i32_w]
            rfl
          refine one_ (i := 13) (N := none) #[true, true, true, true, true, true, true, true, true, true, true, true, true, true, false, false, false, false] rfl rfl (by kernel_rfl) (by decide) (fun K hK => ?_)
          have hq26 : wr.cell? ⟨g4, 26, none⟩ = some (.int .i16 (rd (pad 29 (R1.take 26)) (26 : Nat))) := cellsK_cell B4.out 26 (by rw [pad_len (by rw [List.length_take]; omega)]; omega)
          have hz26 : wr.frozen? ⟨g4, 26, none⟩ = false := blk_frozen B4.out 26
          refine skip_ (w1 := ?_) (by rfl) rfl ?_ ?_
          rotate_left
          · go_simp
            rfl
          have B4_27 := Aside0.mk (blk_set B4.out 26 (.int .i16 x26))
          rw [cellsK_set, P26.out] at B4_27
          clear hq26 hz26
          refine hK.out _ _ ⟨((cell_far (W := wr.drew) (p := ⟨g4, 26, none⟩) (a := ⟨ad.block, ad.off + 26, none⟩) HAP.out (.int .i16 x26)).trans hHeld.1), ((cell_far (W := wr.drew) (p := ⟨g4, 26, none⟩) (a := ⟨ad.block, ad.off + 27, none⟩) HAP.out (.int .i16 x26)).trans hHeld.2.1), ((cell_far (W := wr.drew) (p := ⟨g4, 26, none⟩) (a := ⟨ad.block, ad.off + 28, none⟩) HAP.out (.int .i16 x26)).trans hHeld.2.2)⟩ (fun hHeld => ?_)
          clear hK K
          refine pure_ (i := 14) (N := some 42) (v := ?_) (a' := ?_) #[true, true, true, true, true, true, true, true, true, true, true, true, true, true, true, false, false, false] rfl rfl (by kernel_rfl) (fun _ _ _ h => h) (Or.inl ⟨by rfl, ?_⟩) ?_ ?_
          rotate_left
          · intro w'
            go_simp
            with_reducible rfl
          rotate_left
          · simp only [Act.put, List.setIfInBounds_toArray, List.set_cons_zero, List.set_cons_succ, i64_w, i32_w]
            rfl
          refine one_ (i := 15) (N := none) #[true, true, true, true, true, true, true, true, true, true, true, true, true, true, true, true, false, false] rfl rfl (by kernel_rfl) (by decide) (fun K hK => ?_)
          have hq27 : wr.cell? ⟨g4, 27, none⟩ = some (.int .i16 (rd (pad 29 (R1.take 26)) (27 : Nat))) := cellsK_cell B4.out 27 (by rw [pad_len (by rw [List.length_take]; omega)]; omega)
          have hz27 : wr.frozen? ⟨g4, 27, none⟩ = false := blk_frozen B4.out 27
          refine skip_ (w1 := ?_) (by rfl) rfl ?_ ?_
          rotate_left
          · go_simp
            rfl
          have B4_28 := Aside0.mk (blk_set B4_27.out 27 (.int .i16 x27))
          rw [cellsK_set, P27.out] at B4_28
          clear hq27 hz27
          refine hK.out _ _ ⟨((cell_far (W := (wr.drew.setCell ⟨g4, 26, none⟩ (.int .i16 x26))) (p := ⟨g4, 27, none⟩) (a := ⟨ad.block, ad.off + 26, none⟩) HAP.out (.int .i16 x27)).trans hHeld.1), ((cell_far (W := (wr.drew.setCell ⟨g4, 26, none⟩ (.int .i16 x26))) (p := ⟨g4, 27, none⟩) (a := ⟨ad.block, ad.off + 27, none⟩) HAP.out (.int .i16 x27)).trans hHeld.2.1), ((cell_far (W := (wr.drew.setCell ⟨g4, 26, none⟩ (.int .i16 x26))) (p := ⟨g4, 27, none⟩) (a := ⟨ad.block, ad.off + 28, none⟩) HAP.out (.int .i16 x27)).trans hHeld.2.2)⟩ (fun hHeld => ?_)
          clear hK K
          refine pure_ (i := 16) (N := some 43) (v := ?_) (a' := ?_) #[true, true, true, true, true, true, true, true, true, true, true, true, true, true, true, true, true, false] rfl rfl (by kernel_rfl) (fun _ _ _ h => h) (Or.inl ⟨by rfl, ?_⟩) ?_ ?_
          rotate_left
          · intro w'
            go_simp
            with_reducible rfl
          rotate_left
          · simp only [Act.put, List.setIfInBounds_toArray, List.set_cons_zero, List.set_cons_succ, i64_w, i32_w]
            rfl
          refine last_ (i := 17) (N := none) #[true, true, true, true, true, true, true, true, true, true, true, true, true, true, true, true, true, true] rfl rfl (by kernel_rfl) (by decide) (fun K hK => ?_)
          have hq28 : wr.cell? ⟨g4, 28, none⟩ = some (.int .i16 (rd (pad 29 (R1.take 26)) (28 : Nat))) := cellsK_cell B4.out 28 (by rw [pad_len (by rw [List.length_take]; omega)]; omega)
          have hz28 : wr.frozen? ⟨g4, 28, none⟩ = false := blk_frozen B4.out 28
          refine skip_ (w1 := ?_) (by rfl) rfl ?_ ?_
          rotate_left
          · go_simp
            rfl
          have B4_29 := Aside0.mk (blk_set B4_28.out 28 (.int .i16 x28))
          rw [cellsK_set, P28.out] at B4_29
          clear hq28 hz28
          refine hK.out _ _ ?_
          clear hK K
          refine done_ (by kernel_rfl) ?_
          have HB2 := Aside0.mk (below_set (j := 28) (v := .int .i16 x28) (below_set (j := 27) (v := .int .i16 x27) (below_set (j := 26) (v := .int .i16 x26) (below_drew HB.out) G4.out) G4.out) G4.out)
          have B2b := Aside0.mk (blk_far (p := ⟨g4, 28, none⟩) (blk_far (p := ⟨g4, 27, none⟩) (blk_far (p := ⟨g4, 26, none⟩) (blk_drew B2.out) NB24.out (.int .i16 x26)) NB24.out (.int .i16 x27)) NB24.out (.int .i16 x28))
          clear B2 B4 HB hHeld B4_27 B4_28 X26 X27 X28 P26 P27 P28 hc26 hc27 hc28 hx26 hx27 hx28 HAP
          have B2 := B2b
          have HB := HB2
          clear B2b HB2
          have B4 := B4_29
          clear B4_29
          rw [show 28 + 1 = 29 from rfl, show pad 29 (R1.take 29) = R1 from by rw [List.take_of_length_le (by rw [H29.out]; exact Nat.le_refl _), pad_full H29.out]] at B4
          go_wp2_with (first | ((with_reducible refine gate_dst (N := 44) rfl ?_); refine wpList_load_row rfl 44 (.tmp 4) rfl g4 rfl _ _ _ _ B4.out Tryd.underlying44 rfl (info_rpl H29.out) ?_) | ((with_reducible refine gate_store (t := 44) (p := 2) rfl ?_); refine ev_store_row rfl 44 (.tmp 2) (.tmp 44) rfl rfl g2 (cellsK .i16 R1) rfl rfl _ _ B2.out (info_rpl H29.out) (by rw [cellsK_size, cellsK_size, H29.out]; rfl) (cellsK_one _ _) ?_; intro w7 hb1 hk hbel; clear B4; have n0_ := Aside0.mk (HB.out.trans (hbel _ G2.out)); clear HB; have HB := n0_; clear n0_; have n1_ := Aside0.mk hb1; clear B2; have B2 := n1_; clear n1_ hb1 hk hbel))
          refine bodyPost_ret (res_row_tmp rfl _ _ g2 _ _ (0, 0) _ rfl B2.out Tryd.underlying44 rfl (info_rpl H29.out)) rfl ⟨?_, HB.out⟩
          rw [HE.out]; rfl
    · have h2 : R2 = false := by have := congrArg Prod.snd HRR.out; simp [Pure.numsEnd] at this; rw [← this]; simp; omega
      subst h2
      have HE := Aside0.mk (rp_len HN.out h29)
      clear HRR h29 B4
      go_wp2_with (first | ((with_reducible refine gate_store (t := 44) (p := 2) rfl ?_); refine ev_store_row rfl 44 (.tmp 2) (.tmp 16) rfl rfl g2 (cellsK .i16 (List.replicate 29 0)) rfl rfl _ _ B2.out (info_rpl (by simp)) rfl (cellsK_one _ _) ?_; intro w7 hb1 hk hbel; skip; have n0_ := Aside0.mk (HB.out.trans (hbel _ G2.out)); clear HB; have HB := n0_; clear n0_; have n1_ := Aside0.mk hb1; clear B2; have B2 := n1_; clear n1_ hb1 hk hbel))
      refine bodyPost_ret (res_row_tmp rfl _ _ g2 _ _ (0, 0) _ rfl B2.out Tryd.underlying44 rfl (info_rpl (by simp))) rfl ⟨?_, HB.out⟩
      rw [HE.out]; rfl
theorem info_i64x : (Tryd.prog.info? 2).map (fun i => (i.zero, i.size, i.bytes)) = some (some (.int .i64 0), 1, 8) := by kernel_rfl
theorem cellA_ {w : World} {a : Addr} {v : Value} (o : Obj) (h : w.cell? a = some v) : (w.alloc o).cell? a = some v := by
  rw [World.cell?_alloc_some _ _ _ (by rw [h]; rfl)]; exact h
def pad3 (x y z : Int) : List Int := List.replicate 26 0 ++ [x, y, z]
def mid (l : List Int) (k : Nat) : List Int := l.take k ++ (List.replicate (26 - k) 0 ++ l.drop 26)
theorem below_setRw {B g : Nat} {w0 w : World} (hb : Below B w0 w) (hg : B ≤ g) (cs : Array Value) : Below B w0 (w.setRow g cs) := hb.trans ⟨rfl, rfl, rfl, by simp, fun k hk => setRow_other w g k cs (by omega)⟩
theorem cells3 (x26 x27 x28 : Int) : cellsK .i16 (pad3 x26 x27 x28) = #[.int .i16 0, .int .i16 0, .int .i16 0, .int .i16 0, .int .i16 0, .int .i16 0, .int .i16 0, .int .i16 0, .int .i16 0, .int .i16 0, .int .i16 0, .int .i16 0, .int .i16 0, .int .i16 0, .int .i16 0, .int .i16 0, .int .i16 0, .int .i16 0, .int .i16 0, .int .i16 0, .int .i16 0, .int .i16 0, .int .i16 0, .int .i16 0, .int .i16 0, .int .i16 0, .int .i16 x26, .int .i16 x27, .int .i16 x28] := rfl
theorem mid_zero {l : List Int} (h : l.length = 29) : mid l 0 = pad3 (rd l ((26 : Nat) : Int)) (rd l ((27 : Nat) : Int)) (rd l ((28 : Nat) : Int)) := by
  unfold mid pad3 rd
  rw [List.take_zero, List.nil_append, Nat.sub_zero, List.drop_eq_getElem_cons (by omega), List.drop_eq_getElem_cons (by omega), List.drop_eq_getElem_cons (by omega), List.drop_eq_nil_of_le (by omega)]
  simp only [Int.toNat_natCast, List.getD_eq_getElem?_getD]
  rw [List.getElem?_eq_getElem (by omega), List.getElem?_eq_getElem (by omega), List.getElem?_eq_getElem (by omega)]
  rfl
theorem mid_full {l : List Int} : mid l 26 = l := by unfold mid; rw [Nat.sub_self, List.replicate_zero, List.nil_append, List.take_append_drop]
theorem mid_len {l : List Int} {k : Nat} (h : l.length = 29) (hk : k ≤ 26) : (mid l k).length = 29 := by
  unfold mid
  rw [List.length_append, List.length_append, List.length_take, List.length_replicate, List.length_drop]
  omega
theorem mid_set {l : List Int} {k : Nat} (h : l.length = 29) (hk : k < 26) : (mid l k).set k (rd l k) = mid l (k + 1) := by
  unfold mid
  have hl : (l.take k).length = k := by rw [List.length_take]; omega
  rw [List.set_append_right _ _ (by omega), hl, Nat.sub_self, show 26 - k = (26 - (k + 1)) + 1 from by omega, List.replicate_succ, List.cons_append, List.set_cons_zero, List.take_succ_eq_append_getElem (by omega), List.append_assoc]
  congr 1
  unfold rd
  rw [Int.toNat_natCast, List.getD_eq_getElem?_getD, List.getElem?_eq_getElem (by omega)]
  rfl
theorem rp_cut {s : ByteArray} (h : ¬ (Pure.wordsAt 32 s).length = 29) : rpC s = rpE := by
  cases hn : Pure.nums 1000 (Pure.wordsAt 32 s) with
  | none => exact rp_none hn
  | some l => exact rp_len hn (by have := (Pure.nums_rng hn).1; omega)
set_option maxHeartbeats 8000000 in
set_option maxRecDepth 100000 in
theorem specRdp_calls (s : ByteArray) (hs : s.size ≤ 1048576) (w : World) :
    Calls Tryd.prog 16 #[.string s] w fun e w' => e = .returned (.tuple #[.agg (cellsK .i16 (rpC s).1), .int .i64 (rpC s).2]) ∧ Below w.heap.size w w' := by
  have HS := Aside0.mk hs
  have HB := Aside0.mk (Below.refl w.heap.size w)
  have HSP := Aside0.mk (Pure.split_eq s 32 hs (k := s.size + 1) (by omega))
  clear hs
  go_enter Tryd.func16, Tryd.ntmps16
  go_wp2_with (first | ((with_reducible refine gate_dst (N := 2) rfl ?_); refine box_event ?hg (N := 2) ?hd (cs := #[.int .i16 0, .int .i16 0, .int .i16 0, .int .i16 0, .int .i16 0, .int .i16 0, .int .i16 0, .int .i16 0, .int .i16 0, .int .i16 0, .int .i16 0, .int .i16 0, .int .i16 0, .int .i16 0, .int .i16 0, .int .i16 0, .int .i16 0, .int .i16 0, .int .i16 0, .int .i16 0, .int .i16 0, .int .i16 0, .int .i16 0, .int .i16 0, .int .i16 0, .int .i16 0, .int .i16 0, .int .i16 0, .int .i16 0]) (t := 44) ?hr ?_; (case hd => rfl); (case hg => rfl); (case hr => first | (go_simp; done) | (go_simp; rfl)); intro g2 hg w2 hbox hb; have G2 := Aside0.mk (show w.heap.size ≤ g2 from by rw [hg]; exact HB.out.size); skip; have n0_ := Aside0.mk (below_step HB.out hb); clear HB; have HB := n0_; clear n0_; have B2 : Aside0 (w2.heap[g2]? = some (.cells (cellsK .i16 (List.replicate 29 0)) 44 (0, 0))) := ⟨hbox⟩; clear hg hb hbox))
  refine (spec_l01Split.calls (s.size + 1) s 32 _ _ HSP.out).mono ?_
  rintro e w3 ⟨v0, rfl, ho, hb⟩
  have HO := Aside0.mk (Kd.R_lower ho HB.out.size)
  replace B2 := Aside0.mk (blk_below B2.out hb)
  replace HB := Aside0.mk (below_step HB.out hb)
  clear ho hb HSP
  obtain ⟨W, hW⟩ : ∃ W, Pure.wordsAt 32 s = W := ⟨_, rfl⟩
  rw [hW] at HO
  have HW := Aside0.mk hW
  clear hW
  obtain ⟨A0, c0, rfl, hc0, hr0⟩ := Kd.R_reads HO.out
  clear hc0 hr0
  by_cases h29 : W.length = 29
  · have hlz : ((W.length : Int) == 29) = true := by rw [h29]; rfl
    have hlz2 : ((W.length : Int) != 29) = false := by unfold bne; rw [hlz]; rfl
    have H29 := Aside0.mk h29
    clear h29
    go_wp2_with (first | ((with_reducible refine gate_dst (N := 17) rfl ?_); refine Kd.R_lit (Kd.int .i64) _ 2 ?hg (N := 17) ?hd (xs := ([] : List Int)) (inner := []) (ok := fun _ => True) (okp := fun _ => True) ?hr ?hp (fun _ hk => hk) trivial (Below.refl _ _) (Nat.le_refl _) (by simp) ?_; (case hd => rfl); (case hg => rfl); (case hr => first | (go_simp; done) | (go_simp; rfl)); (case hp => exact (Reps.none _ _)); intro v5_ w5 ho4 hb hg_ hnew_; clear hg_ hnew_; have n5_ := Aside0.mk (Kd.R_lower ho4 HB.out.size); have n2_ := Aside0.mk (blk_below B2.out hb); clear B2; have B2 := n2_; clear n2_; have n3_ := Aside0.mk (Kd.R_below HO.out hb); clear HO; have HO := n3_; clear n3_; have n0_ := Aside0.mk (below_step HB.out hb); clear HB; have HB := n0_; clear n0_; have HL5 := n5_; clear n5_ hb ho4))
    clear hlz hlz2
    go_loopg [5, 6] 29 (fun gg s5 s6 wr => ∃ (kk : Nat) (pre : List Int), kk ≤ 29 ∧ 29 - kk ≤ gg ∧ s6 = .int .i64 kk ∧ Aside0 (pre.length = kk) ∧ Aside0 (∀ x ∈ pre, 0 ≤ x ∧ x ≤ 1000) ∧ Aside0 (Pure.nums 1000 W = (Pure.nums 1000 (W.drop kk)).map (fun r => pre ++ r)) ∧ Aside0 (Kd.R Kd.string 9 wr w.heap.size (fun _ => True) (.slice A0 W.length c0) W) ∧ Aside0 (wr.heap[g2]? = some (.cells (cellsK .i16 (List.replicate 29 0)) 44 (0, 0))) ∧ Aside0 (Kd.R (Kd.int .i64) 2 wr w.heap.size (fun _ => True) s5 pre) ∧ Aside0 (Below w.heap.size w wr))
    case atStart => exact ⟨0, [], by omega, by omega, rfl, ⟨rfl⟩, ⟨by simp⟩, ⟨by simp⟩, HO, B2, HL5, HB⟩
    case round =>
      clear HO B2 HL5 HB
      obtain ⟨kk, pre, hkk, hgk, rfl, HPL, HPR, HNE, HO, B2, HL5, HB⟩ := hrel
      by_cases hlt : kk < 29
      · have hltz : (kk : Int) < 29 := by omega
        obtain ⟨ad, hA, hx⟩ := Kd.at_string (Kd.R_reads' HO.out).2.2 kk (by omega) (by have := H29.out; omega)
        subst hA
        rw [Int.toNat_natCast] at hx
        have hltw : (kk : Int) < (W.length : Int) := by have := H29.out; omega
        have HD := Aside0.mk (drop_consW W kk (by have := H29.out; omega))
        generalize rdOf ByteArray.empty W kk = x at hx HD
        have HNE2 := Aside0.mk (HNE.out.trans (by rw [HD.out]))
        have hnum := Pure.number_eq x (k := 21) (by omega)
        cases hq : numB 1000 x.data.toList with
        | none =>
          have HE := Aside0.mk (rp_none (s := s) (by rw [HW.out]; exact nums_stop HNE2.out hq))
          have hsn := Pure.numS_none hq
          obtain ⟨⟨Q1, Q2⟩, hQ⟩ : ∃ Q, Pure.numS x.data.toList = Q := ⟨_, rfl⟩
          rw [hQ] at hnum hsn
          have HNUM := Aside0.mk hnum
          clear hnum hq hQ
          dsimp only at hsn
          go_wp2_with fail
          refine (spec_l01Number.calls 21 x Q1 Q2 _ HNUM.out).mono ?_
          rintro e w6 ⟨rfl, hdr⟩
          replace HB := Aside0.mk (below_step HB.out hdr.below)
          replace B2 := Aside0.mk (blk_below B2.out hdr.below)
          clear hdr HL5 HO
          cases Q2 with
          | false =>
            clear hsn
            go_wp2_with (first | ((with_reducible refine gate_store (t := 44) (p := 2) rfl ?_); refine ev_store_row rfl 44 (.tmp 2) (.tmp 38) rfl rfl g2 (cellsK .i16 (List.replicate 29 0)) rfl rfl _ _ B2.out (info_rpl (by simp)) rfl (cellsK_one _ _) ?_; intro w7 hb1 hk hbel; skip; have n0_ := Aside0.mk (HB.out.trans (hbel _ G2.out)); clear HB; have HB := n0_; clear n0_; have n1_ := Aside0.mk hb1; clear B2; have B2 := n1_; clear n1_ hb1 hk hbel))
            refine bodyPost_ret (res_row_tmp rfl _ _ g2 _ _ (0, 0) _ rfl B2.out Tryd.underlying44 rfl (info_rpl (by simp))) rfl ⟨?_, HB.out⟩
            rw [HE.out]; rfl
          | true =>
            have h30 : Q1 > 1000 := by rcases hsn with h | h; · cases h
                                       · exact h
            have h30b : decide ((1000 : Int) < Q1) = true := decide_eq_true h30
            clear hsn h30
            go_wp2_with (first | ((with_reducible refine gate_store (t := 44) (p := 2) rfl ?_); refine ev_store_row rfl 44 (.tmp 2) (.tmp 38) rfl rfl g2 (cellsK .i16 (List.replicate 29 0)) rfl rfl _ _ B2.out (info_rpl (by simp)) rfl (cellsK_one _ _) ?_; intro w7 hb1 hk hbel; skip; have n0_ := Aside0.mk (HB.out.trans (hbel _ G2.out)); clear HB; have HB := n0_; clear n0_; have n1_ := Aside0.mk hb1; clear B2; have B2 := n1_; clear n1_ hb1 hk hbel))
            refine bodyPost_ret (res_row_tmp rfl _ _ g2 _ _ (0, 0) _ rfl B2.out Tryd.underlying44 rfl (info_rpl (by simp))) rfl ⟨?_, HB.out⟩
            rw [HE.out]; rfl
        | some n =>
          have hsn := Pure.numS_some (by omega) hq
          have HST := Aside0.mk (nums_step HNE2.out hq)
          rw [hsn.1] at hnum
          have HNUM := Aside0.mk hnum
          have hn30 : n ≤ 1000 := hsn.2
          clear hnum hq hsn
          go_wp2_with fail
          refine (spec_l01Number.calls 21 x (n : Int) true _ HNUM.out).mono ?_
          rintro e w6 ⟨rfl, hdr⟩
          replace HB := Aside0.mk (below_step HB.out hdr.below)
          replace B2 := Aside0.mk (blk_below B2.out hdr.below)
          replace HL5 := Aside0.mk (Kd.R_below HL5.out hdr.below)
          replace HO := Aside0.mk (Kd.R_below HO.out hdr.below)
          clear hdr hx HNUM HNE2
          have h30b : decide ((1000 : Int) < (n : Int)) = false := decide_eq_false (by omega)
          go_wp2_with (first | ((with_reducible refine gate_builtin (b := .append) (xs := #[.tmp 39, .tmp 41]) rfl ?_); at_builtin; refine Kd.R_append (Kd.int .i64) (w0 := w) w.heap.size rfl (.tmp 39) (.tmp 41) 55 2 (.int .i64 0) 8 rfl Tryd.underlying55 info_i64x rfl (by decide) (by omega) _ pre (n : Int) [.int .i64 (n : Int)] (fun _ => True) (fun _ => False) rfl rfl ?aP (fun _ hk => hk.elim) ?aF ?aO ?aB ?aS ?aL ?_; (case aP => exact rfl); (case aB => exact (by repeat (first | exact HB.out | apply below_alloc | apply pw_below_drewN | apply below_drew1))); (case aF => exact (fun _ _ => trivial)); (case aO => exact (by (with_reducible repeat (first | apply Kd.R_alloc | apply Kd.R_drewN | apply Kd.R_drew)); exact HL5.out)); (case aS => exact (below_size (by repeat (first | exact HB.out | apply below_alloc | apply pw_below_drewN | apply below_drew1)))); (case aL => have := HPL.out; omega); intro v9 w9 ho hb hg hat; have n0_ := Aside0.mk (Kd.R_over' (by (with_reducible repeat (first | apply Kd.R_alloc | apply Kd.R_drewN | apply Kd.R_drew)); exact HO.out) (Kd.R_typed (by (with_reducible repeat (first | apply Kd.R_alloc | apply Kd.R_drewN | apply Kd.R_drew)); exact HL5.out)) (by decide) hg); have n2_ := Aside0.mk (blk_grown B2.out hg (R_neB HL5.out B2.out (by simp))); clear B2 HO HB HL5; have B2 := n2_; have HO := n0_; have HB := Aside0.mk hb; have HL5 := Aside0.mk ho; clear n0_ n2_ ho hb hg hat))
          go_roundg (29 - (kk + 1))
          case measure => omega
          case rel =>
            refine ⟨kk + 1, pre ++ [(n : Int)], by omega, by omega, by go_num, ⟨by simp [HPL.out]⟩, ⟨fun y hy => ?_⟩, HST, HO, B2, HL5, HB⟩
            rcases List.mem_append.1 hy with hy | hy
            · exact HPR.out y hy
            · simp at hy; omega
      · obtain rfl : kk = 29 := by omega
        have HN : Aside0 (Pure.nums 1000 (Pure.wordsAt 32 s) = some pre) := ⟨by rw [HW.out]; exact nums_end (HNE.out.trans (by rw [List.drop_eq_nil_of_le (by rw [H29.out]; exact Nat.le_refl _)]))⟩
        have HE := Aside0.mk (rp_ok HN.out HPL.out)
        clear HNE HO HN
        obtain ⟨A1, c1, rfl, hc1, hr1⟩ := Kd.R_reads HL5.out
        clear hc1 hr1
        have hlen := HPL.out
        rw [hlen] at HL5
        simp only [hlen]
        clear hlen
        obtain ⟨ad, hA, hc26⟩ := Kd.at_int (Kd.R_reads' HL5.out).2.2 ((26 : Nat) : Int) (by omega) (by have := HPL.out; omega)
        obtain ⟨ad7, hA7, hc27⟩ := Kd.at_int (Kd.R_reads' HL5.out).2.2 ((27 : Nat) : Int) (by omega) (by have := HPL.out; omega)
        obtain ⟨ad8, hA8, hc28⟩ := Kd.at_int (Kd.R_reads' HL5.out).2.2 ((28 : Nat) : Int) (by omega) (by have := HPL.out; omega)
        subst hA
        obtain rfl : ad = ad7 := Option.some.inj hA7
        obtain rfl : ad = ad8 := Option.some.inj hA8
        clear hA7 hA8
        rw [Int.toNat_natCast] at hc26 hc27 hc28
        have hc26 : wr.cell? ⟨ad.block, ad.off + 26, none⟩ = _ := hc26
        have hc27 : wr.cell? ⟨ad.block, ad.off + 27, none⟩ = _ := hc27
        have hc28 : wr.cell? ⟨ad.block, ad.off + 28, none⟩ = _ := hc28
        have hx26 := w16 (HPR.out (rd pre ((26 : Nat) : Int)) (mem_rd pre 26 (by rw [HPL.out]; omega)))
        have hx27 := w16 (HPR.out (rd pre ((27 : Nat) : Int)) (mem_rd pre 27 (by rw [HPL.out]; omega)))
        have hx28 := w16 (HPR.out (rd pre ((28 : Nat) : Int)) (mem_rd pre 28 (by rw [HPL.out]; omega)))
        have HM0 := Aside0.mk (mid_zero HPL.out)
        generalize rd pre ((26 : Nat) : Int) = x26 at hc26 hx26 HM0
        generalize rd pre ((27 : Nat) : Int) = x27 at hc27 hx27 HM0
        generalize rd pre ((28 : Nat) : Int) = x28 at hc28 hx28 HM0
        have hltw : ¬ (29 : Int) < (W.length : Int) := by have := H29.out; omega
        go_wp2_with fail
        refine start_ (n := 15) (S := fun w' => w'.cell? ⟨ad.block, ad.off + 26, none⟩ = some (.int .i64 x26) ∧ w'.cell? ⟨ad.block, ad.off + 27, none⟩ = some (.int .i64 x27) ∧ w'.cell? ⟨ad.block, ad.off + 28, none⟩ = some (.int .i64 x28)) (ds := [14]) #[false, false, false, false, false, false, false, false, false, false, false, false, false, false, false] (by kernel_rfl) rfl rfl ⟨(cellBw_ (below_drew (Below.refl _ _)) hc26), (cellBw_ (below_drew (Below.refl _ _)) hc27), (cellBw_ (below_drew (Below.refl _ _)) hc28)⟩ (fun hHeld => ?_)
        refine pure_ (i := 0) (N := some 43) (v := ?_) (a' := ?_) #[true, false, false, false, false, false, false, false, false, false, false, false, false, false, false] rfl rfl (by kernel_rfl) (fun _ _ _ h => h) (Or.inl ⟨by rfl, ?_⟩) ?_ ?_
        rotate_left
        · intro w'
          go_simp
          with_reducible rfl
        rotate_left
        · simp only [Act.put, List.setIfInBounds_toArray, List.set_cons_zero, List.set_cons_succ, i64_w, i32_w]
          rfl
        refine pure_ (i := 1) (N := some 44) (v := ?_) (a' := ?_) #[true, true, false, false, false, false, false, false, false, false, false, false, false, false, false] rfl rfl (by kernel_rfl) (fun _ _ _ h => h) (Or.inl ⟨by rfl, ?_⟩) ?_ ?_
        rotate_left
        · intro w'
          go_simp
          with_reducible rfl
        rotate_left
        · simp only [Act.put, List.setIfInBounds_toArray, List.set_cons_zero, List.set_cons_succ, i64_w, i32_w]
          rfl
        refine pure_ (i := 4) (N := some 47) (v := ?_) (a' := ?_) #[true, true, false, false, true, false, false, false, false, false, false, false, false, false, false] rfl rfl (by kernel_rfl) (fun _ _ _ h => h) (Or.inl ⟨by rfl, ?_⟩) ?_ ?_
        rotate_left
        · intro w'
          go_simp
          with_reducible rfl
        rotate_left
        · simp only [Act.put, List.setIfInBounds_toArray, List.set_cons_zero, List.set_cons_succ, i64_w, i32_w]
          rfl
        refine pure_ (i := 5) (N := some 48) (v := ?_) (a' := ?_) #[true, true, false, false, true, true, false, false, false, false, false, false, false, false, false] rfl rfl (by kernel_rfl) (fun _ _ _ h => h) (Or.inl ⟨by rfl, ?_⟩) ?_ ?_
        rotate_left
        · intro w'
          go_simp
          with_reducible rfl
        rotate_left
        · simp only [Act.put, List.setIfInBounds_toArray, List.set_cons_zero, List.set_cons_succ, i64_w, i32_w]
          rfl
        refine pure_ (i := 8) (N := some 51) (v := ?_) (a' := ?_) #[true, true, false, false, true, true, false, false, true, false, false, false, false, false, false] rfl rfl (by kernel_rfl) (fun _ _ _ h => h) (Or.inl ⟨by rfl, ?_⟩) ?_ ?_
        rotate_left
        · intro w'
          go_simp
          with_reducible rfl
        rotate_left
        · simp only [Act.put, List.setIfInBounds_toArray, List.set_cons_zero, List.set_cons_succ, i64_w, i32_w]
          rfl
        refine pure_ (i := 9) (N := some 52) (v := ?_) (a' := ?_) #[true, true, false, false, true, true, false, false, true, true, false, false, false, false, false] rfl rfl (by kernel_rfl) (fun _ _ _ h => h) (Or.inl ⟨by rfl, ?_⟩) ?_ ?_
        rotate_left
        · intro w'
          go_simp
          with_reducible rfl
        rotate_left
        · simp only [Act.put, List.setIfInBounds_toArray, List.set_cons_zero, List.set_cons_succ, i64_w, i32_w]
          rfl
        refine take_ (i := 2) (N := some 45) (v := ?_) (a' := ?_) #[true, true, true, false, true, true, false, false, true, true, false, false, false, false, false] rfl rfl (by kernel_rfl) (fun _ _ _ h => h) (Or.inl ⟨by rfl, ?_⟩) hHeld ?_ ?_
        rotate_left
        · rintro w' ⟨s0, s1, s2⟩
          go_simp
          with_reducible rfl
        rotate_left
        · simp only [Act.put, List.setIfInBounds_toArray, List.set_cons_zero, List.set_cons_succ, i64_w, i32_w]
          rfl
        refine pure_ (i := 3) (N := some 46) (v := ?_) (a' := ?_) #[true, true, true, true, true, true, false, false, true, true, false, false, false, false, false] rfl rfl (by kernel_rfl) (fun _ _ _ h => h) (Or.inl ⟨by rfl, ?_⟩) ?_ ?_
        rotate_left
        · intro w'
          go_simp
          with_reducible rfl
        rotate_left
        · simp only [Act.put, List.setIfInBounds_toArray, List.set_cons_zero, List.set_cons_succ, i64_w, i32_w]
          rfl
        refine take_ (i := 6) (N := some 49) (v := ?_) (a' := ?_) #[true, true, true, true, true, true, true, false, true, true, false, false, false, false, false] rfl rfl (by kernel_rfl) (fun _ _ _ h => h) (Or.inl ⟨by rfl, ?_⟩) hHeld ?_ ?_
        rotate_left
        · rintro w' ⟨s0, s1, s2⟩
          go_simp
          with_reducible rfl
        rotate_left
        · simp only [Act.put, List.setIfInBounds_toArray, List.set_cons_zero, List.set_cons_succ, i64_w, i32_w]
          rfl
        refine pure_ (i := 7) (N := some 50) (v := ?_) (a' := ?_) #[true, true, true, true, true, true, true, true, true, true, false, false, false, false, false] rfl rfl (by kernel_rfl) (fun _ _ _ h => h) (Or.inl ⟨by rfl, ?_⟩) ?_ ?_
        rotate_left
        · intro w'
          go_simp
          with_reducible rfl
        rotate_left
        · simp only [Act.put, List.setIfInBounds_toArray, List.set_cons_zero, List.set_cons_succ, i64_w, i32_w]
          rfl
        refine take_ (i := 10) (N := some 53) (v := ?_) (a' := ?_) #[true, true, true, true, true, true, true, true, true, true, true, false, false, false, false] rfl rfl (by kernel_rfl) (fun _ _ _ h => h) (Or.inl ⟨by rfl, ?_⟩) hHeld ?_ ?_
        rotate_left
        · rintro w' ⟨s0, s1, s2⟩
          go_simp
          with_reducible rfl
        rotate_left
        · simp only [Act.put, List.setIfInBounds_toArray, List.set_cons_zero, List.set_cons_succ, i64_w, i32_w]
          rfl
        refine pure_ (i := 11) (N := some 54) (v := ?_) (a' := ?_) #[true, true, true, true, true, true, true, true, true, true, true, true, false, false, false] rfl rfl (by kernel_rfl) (fun _ _ _ h => h) (Or.inl ⟨by rfl, ?_⟩) ?_ ?_
        rotate_left
        · intro w'
          go_simp
          with_reducible rfl
        rotate_left
        · simp only [Act.put, List.setIfInBounds_toArray, List.set_cons_zero, List.set_cons_succ, i64_w, i32_w]
          rfl
        refine pure_ (i := 12) (N := some 55) (v := ?_) (a' := ?_) #[true, true, true, true, true, true, true, true, true, true, true, true, true, false, false] rfl rfl (by kernel_rfl) (fun _ _ _ h => h) (Or.inl ⟨by rfl, ?_⟩) ?_ ?_
        rotate_left
        · intro w'
          go_simp
          with_reducible rfl
        rotate_left
        · simp only [Act.put, List.setIfInBounds_toArray, List.set_cons_zero, List.set_cons_succ, i64_w, i32_w]
          rfl
        refine one_ (i := 13) (N := some 9) #[true, true, true, true, true, true, true, true, true, true, true, true, true, true, false] rfl rfl (by kernel_rfl) (by decide) (fun K hK => ?_)
        refine value_ (w1 := ?_) (v := ?_) (by rfl) rfl ?_ ?_
        rotate_left 2
        · go_simp
          constructor
          · rfl
          · rfl
        refine hK.out _ _ ⟨(cellA_ (w := wr.drew) (.cells #[.int .i16 0, .int .i16 0, .int .i16 0, .int .i16 0, .int .i16 0, .int .i16 0, .int .i16 0, .int .i16 0, .int .i16 0, .int .i16 0, .int .i16 0, .int .i16 0, .int .i16 0, .int .i16 0, .int .i16 0, .int .i16 0, .int .i16 0, .int .i16 0, .int .i16 0, .int .i16 0, .int .i16 0, .int .i16 0, .int .i16 0, .int .i16 0, .int .i16 0, .int .i16 0, .int .i16 0, .int .i16 0, .int .i16 0] 44 (0, 0)) hHeld.1), (cellA_ (w := wr.drew) (.cells #[.int .i16 0, .int .i16 0, .int .i16 0, .int .i16 0, .int .i16 0, .int .i16 0, .int .i16 0, .int .i16 0, .int .i16 0, .int .i16 0, .int .i16 0, .int .i16 0, .int .i16 0, .int .i16 0, .int .i16 0, .int .i16 0, .int .i16 0, .int .i16 0, .int .i16 0, .int .i16 0, .int .i16 0, .int .i16 0, .int .i16 0, .int .i16 0, .int .i16 0, .int .i16 0, .int .i16 0, .int .i16 0, .int .i16 0] 44 (0, 0)) hHeld.2.1), (cellA_ (w := wr.drew) (.cells #[.int .i16 0, .int .i16 0, .int .i16 0, .int .i16 0, .int .i16 0, .int .i16 0, .int .i16 0, .int .i16 0, .int .i16 0, .int .i16 0, .int .i16 0, .int .i16 0, .int .i16 0, .int .i16 0, .int .i16 0, .int .i16 0, .int .i16 0, .int .i16 0, .int .i16 0, .int .i16 0, .int .i16 0, .int .i16 0, .int .i16 0, .int .i16 0, .int .i16 0, .int .i16 0, .int .i16 0, .int .i16 0, .int .i16 0] 44 (0, 0)) hHeld.2.2)⟩ (fun hHeld => ?_)
        clear hK K
        refine norm_ (a' := ?_) ?_ ?_
        rotate_left
        · show Act.put _ (some 9) _ = _
          simp only [Act.put, List.setIfInBounds_toArray, List.set_cons_zero, List.set_cons_succ, i64_w, i32_w]
          rfl
        refine last_ (i := 14) (N := none) #[true, true, true, true, true, true, true, true, true, true, true, true, true, true, true] rfl rfl (by kernel_rfl) (by decide) (fun K hK => ?_)
        refine skip_ (w1 := ((wr.drew.alloc (.cells #[.int .i16 0, .int .i16 0, .int .i16 0, .int .i16 0, .int .i16 0, .int .i16 0, .int .i16 0, .int .i16 0, .int .i16 0, .int .i16 0, .int .i16 0, .int .i16 0, .int .i16 0, .int .i16 0, .int .i16 0, .int .i16 0, .int .i16 0, .int .i16 0, .int .i16 0, .int .i16 0, .int .i16 0, .int .i16 0, .int .i16 0, .int .i16 0, .int .i16 0, .int .i16 0, .int .i16 0, .int .i16 0, .int .i16 0] 44 (0, 0))).setRow wr.drew.heap.size (cellsK .i16 (pad3 x26 x27 x28)))) (by rfl) rfl ?_ ?_
        · apply exec_store_rowx 44 (.tmp 9) (.tmp 55) (g := wr.drew.heap.size) (cells := cellsK .i16 (pad3 x26 x27 x28)) (t := 44) (old := #[.int .i16 0, .int .i16 0, .int .i16 0, .int .i16 0, .int .i16 0, .int .i16 0, .int .i16 0, .int .i16 0, .int .i16 0, .int .i16 0, .int .i16 0, .int .i16 0, .int .i16 0, .int .i16 0, .int .i16 0, .int .i16 0, .int .i16 0, .int .i16 0, .int .i16 0, .int .i16 0, .int .i16 0, .int .i16 0, .int .i16 0, .int .i16 0, .int .i16 0, .int .i16 0, .int .i16 0, .int .i16 0, .int .i16 0])
          · rfl
          · rfl
          · rw [cells3]; rfl
          · exact blk_new wr.drew _
          · exact info_rpl rfl
          · rfl
          · exact cellsK_one _ _
        refine hK.out _ _ ?_
        clear hK K
        refine done_ (by kernel_rfl) ?_
        have NB29 := Aside0.mk (Nat.ne_of_lt (blk_lt B2.out))
        have G9 := Aside0.mk HB.out.size
        have HALL : Aside0 (((wr.drew.alloc (.cells #[.int .i16 0, .int .i16 0, .int .i16 0, .int .i16 0, .int .i16 0, .int .i16 0, .int .i16 0, .int .i16 0, .int .i16 0, .int .i16 0, .int .i16 0, .int .i16 0, .int .i16 0, .int .i16 0, .int .i16 0, .int .i16 0, .int .i16 0, .int .i16 0, .int .i16 0, .int .i16 0, .int .i16 0, .int .i16 0, .int .i16 0, .int .i16 0, .int .i16 0, .int .i16 0, .int .i16 0, .int .i16 0, .int .i16 0] 44 (0, 0))).setRow wr.drew.heap.size (cellsK .i16 (pad3 x26 x27 x28))).heap[wr.heap.size]? = some (.cells (cellsK .i16 (mid pre 0)) 44 (0, 0))) ∧ Aside0 (Below w.heap.size w ((wr.drew.alloc (.cells #[.int .i16 0, .int .i16 0, .int .i16 0, .int .i16 0, .int .i16 0, .int .i16 0, .int .i16 0, .int .i16 0, .int .i16 0, .int .i16 0, .int .i16 0, .int .i16 0, .int .i16 0, .int .i16 0, .int .i16 0, .int .i16 0, .int .i16 0, .int .i16 0, .int .i16 0, .int .i16 0, .int .i16 0, .int .i16 0, .int .i16 0, .int .i16 0, .int .i16 0, .int .i16 0, .int .i16 0, .int .i16 0, .int .i16 0] 44 (0, 0))).setRow wr.drew.heap.size (cellsK .i16 (pad3 x26 x27 x28)))) ∧ Aside0 (((wr.drew.alloc (.cells #[.int .i16 0, .int .i16 0, .int .i16 0, .int .i16 0, .int .i16 0, .int .i16 0, .int .i16 0, .int .i16 0, .int .i16 0, .int .i16 0, .int .i16 0, .int .i16 0, .int .i16 0, .int .i16 0, .int .i16 0, .int .i16 0, .int .i16 0, .int .i16 0, .int .i16 0, .int .i16 0, .int .i16 0, .int .i16 0, .int .i16 0, .int .i16 0, .int .i16 0, .int .i16 0, .int .i16 0, .int .i16 0, .int .i16 0] 44 (0, 0))).setRow wr.drew.heap.size (cellsK .i16 (pad3 x26 x27 x28))).heap[g2]? = some (.cells (cellsK .i16 (List.replicate 29 0)) 44 (0, 0))) ∧ Aside0 (Kd.R (Kd.int .i64) 2 ((wr.drew.alloc (.cells #[.int .i16 0, .int .i16 0, .int .i16 0, .int .i16 0, .int .i16 0, .int .i16 0, .int .i16 0, .int .i16 0, .int .i16 0, .int .i16 0, .int .i16 0, .int .i16 0, .int .i16 0, .int .i16 0, .int .i16 0, .int .i16 0, .int .i16 0, .int .i16 0, .int .i16 0, .int .i16 0, .int .i16 0, .int .i16 0, .int .i16 0, .int .i16 0, .int .i16 0, .int .i16 0, .int .i16 0, .int .i16 0, .int .i16 0] 44 (0, 0))).setRow wr.drew.heap.size (cellsK .i16 (pad3 x26 x27 x28))) w.heap.size (fun _ => True) (.slice (some ad) 29 c1) pre) :=
          ⟨⟨by rw [HM0.out]; exact setRow_heap _ _ _ _ _ _ (blk_new wr.drew _)⟩, ⟨below_setRw ((below_drew HB.out).alloc HB.out.size _) HB.out.size _⟩, ⟨(setRow_other _ _ _ _ (Nat.ne_of_lt (blk_lt B2.out))).trans (blk_alloc (blk_drew B2.out) _)⟩, ⟨Kd.R_mono (Kd.R_step (Kd.R_types (Kd.R_alloc (Kd.R_drew HL5.out) _) (blk_new wr.drew _) (by decide)) (fun k hk _ => setRow_other _ _ _ _ hk.2)) (fun _ _ => trivial)⟩⟩
        clear B2 HB HL5 hHeld hc26 hc27 hc28 hx26 hx27 hx28 HM0
        revert HALL NB29 G9
        generalize ((wr.drew.alloc (.cells #[.int .i16 0, .int .i16 0, .int .i16 0, .int .i16 0, .int .i16 0, .int .i16 0, .int .i16 0, .int .i16 0, .int .i16 0, .int .i16 0, .int .i16 0, .int .i16 0, .int .i16 0, .int .i16 0, .int .i16 0, .int .i16 0, .int .i16 0, .int .i16 0, .int .i16 0, .int .i16 0, .int .i16 0, .int .i16 0, .int .i16 0, .int .i16 0, .int .i16 0, .int .i16 0, .int .i16 0, .int .i16 0, .int .i16 0] 44 (0, 0))).setRow wr.drew.heap.size (cellsK .i16 (pad3 x26 x27 x28))) = wy
        generalize wr.heap.size = g9
        rintro NB29 G9 ⟨B9, HB, B2, HL5⟩
        go_wp2_with fail
        go_loopg [10] 26 (fun gg s10 wr => ∃ kk : Nat, kk ≤ 26 ∧ 26 - kk ≤ gg ∧ s10 = .int .i64 kk ∧ Aside0 (Kd.R (Kd.int .i64) 2 wr w.heap.size (fun _ => True) (.slice (some ad) 29 c1) pre) ∧ Aside0 (wr.heap[g2]? = some (.cells (cellsK .i16 (List.replicate 29 0)) 44 (0, 0))) ∧ Aside0 (wr.heap[g9]? = some (.cells (cellsK .i16 (mid pre kk)) 44 (0, 0))) ∧ Aside0 (Below w.heap.size w wr))
        case atStart => exact ⟨0, by omega, by omega, rfl, HL5, B2, B9, HB⟩
        case round =>
          clear HL5 B2 B9 HB
          obtain ⟨kk, hkk, hgk, rfl, HL5, B2, B9, HB⟩ := hrel
          by_cases hlt : kk < 26
          · have hltz : (kk : Int) < 26 := by omega
            have hlt29 : (kk : Int) < 29 := by omega
            obtain ⟨ad2, hA, hx⟩ := Kd.at_int (Kd.R_reads' HL5.out).2.2 kk (by omega) (by have := HPL.out; omega)
            obtain rfl : ad = ad2 := Option.some.inj hA
            clear hA
            rw [Int.toNat_natCast] at hx
            have HX := Aside0.mk (HPR.out (rd pre kk) (mem_rd pre kk (by rw [HPL.out]; omega)))
            have hc9 : wr.cell? ⟨g9, kk, none⟩ = some (.int .i16 (rd (mid pre kk) kk)) := cellsK_cell B9.out kk (by rw [mid_len HPL.out hkk]; omega)
            have hf9 : wr.frozen? ⟨g9, kk, none⟩ = false := blk_frozen B9.out kk
            have HCS := Aside0.mk (mid_set (k := kk) HPL.out hlt)
            generalize rd (mid pre kk) kk = old at hc9
            generalize rd pre kk = x at hx HX HCS
            have hx8 : IntKind.i16.wrap x = x := w16 HX.out
            go_wp2
            go_roundg (26 - (kk + 1))
            case measure => omega
            case rel =>
              refine ⟨kk + 1, by omega, by omega, by go_num, ⟨?_⟩, ⟨?_⟩, ⟨?_⟩, ⟨?_⟩⟩
              · exact Kd.R_mono (Kd.R_far (p := ⟨g9, kk, none⟩) (Kd.R_types HL5.out B9.out (by decide)) (fun _ hk => hk.2) _) (fun _ _ => trivial)
              · exact blk_far B2.out NB29.out _
              · have := blk_set B9.out kk (.int .i16 x)
                rw [cellsK_set, HCS.out] at this
                exact this
              · exact below_set HB.out G9.out
          · obtain rfl : kk = 26 := by omega
            rw [mid_full] at B9
            clear HL5
            go_wp2_with (first | ((with_reducible refine gate_dst (N := 68) rfl ?_); refine wpList_load_row rfl 44 (.tmp 9) rfl g9 rfl _ _ _ _ B9.out Tryd.underlying44 rfl (info_rpl HPL.out) ?_) | ((with_reducible refine gate_store (t := 44) (p := 2) rfl ?_); refine ev_store_row rfl 44 (.tmp 2) (.tmp 68) rfl rfl g2 (cellsK .i16 pre) rfl rfl _ _ B2.out (info_rpl HPL.out) (by rw [cellsK_size, cellsK_size, HPL.out]; rfl) (cellsK_one _ _) ?_; intro w7 hb1 hk hbel; clear B9; have n0_ := Aside0.mk (HB.out.trans (hbel _ G2.out)); clear HB; have HB := n0_; clear n0_; have n1_ := Aside0.mk hb1; clear B2; have B2 := n1_; clear n1_ hb1 hk hbel))
            refine bodyPost_ret (res_row_tmp rfl _ _ g2 _ _ (0, 0) _ rfl B2.out Tryd.underlying44 rfl (info_rpl HPL.out)) rfl ⟨?_, HB.out⟩
            rw [HE.out]; rfl
  · have HE : Aside0 (rpC s = rpE) := ⟨rp_cut (by rw [HW.out]; exact h29)⟩
    have hlz : ((W.length : Int) == 29) = false := by rw [beq_eq_false_iff_ne]; omega
    have hlz2 : ((W.length : Int) != 29) = true := by unfold bne; rw [hlz]; rfl
    clear h29
    go_wp2_with (first | ((with_reducible refine gate_store (t := 44) (p := 2) rfl ?_); refine ev_store_row rfl 44 (.tmp 2) (.tmp 16) rfl rfl g2 (cellsK .i16 (List.replicate 29 0)) rfl rfl _ _ B2.out (info_rpl (by simp)) rfl (cellsK_one _ _) ?_; intro w7 hb1 hk hbel; clear HO; have n0_ := Aside0.mk (HB.out.trans (hbel _ G2.out)); clear HB; have HB := n0_; clear n0_; have n1_ := Aside0.mk hb1; clear B2; have B2 := n1_; clear n1_ hb1 hk hbel))
    refine bodyPost_ret (res_row_tmp rfl _ _ g2 _ _ (0, 0) _ rfl B2.out Tryd.underlying44 rfl (info_rpl (by simp))) rfl ⟨?_, HB.out⟩
    rw [HE.out]; rfl
theorem takeS_ne {l m : List Int} {n : Nat} (h1 : n < l.length) (h2 : n < m.length) (h : rd l n ≠ rd m n) : l ≠ m := by
  rintro rfl
  exact h rfl
theorem takeS_step {l m : List Int} {n : Nat} (h1 : n < l.length) (h2 : n < m.length) (h : rd l n = rd m n) (ht : l.take n = m.take n) : l.take (n + 1) = m.take (n + 1) := by
  rw [List.take_succ_eq_append_getElem h1, List.take_succ_eq_append_getElem h2, ht]
  congr 2
  unfold rd at h
  rw [Int.toNat_natCast, List.getD_eq_getElem?_getD, List.getD_eq_getElem?_getD, List.getElem?_eq_getElem h1, List.getElem?_eq_getElem h2] at h
  exact h
set_option maxHeartbeats 2000000 in
theorem eqInt16A26_calls (l m : List Int) (hl : l.length = 26) (hm : m.length = 26) (w : World) :
    Calls Tryd.prog 42 #[.agg (cellsK .i16 l), .agg (cellsK .i16 m)] w fun e w' => e = .returned (.bool (decide (l = m))) ∧ Below w.heap.size w w' := by
  obtain ⟨X, hX⟩ : ∃ X, X = cellsK .i16 l := ⟨_, rfl⟩
  obtain ⟨Y, hY⟩ : ∃ Y, Y = cellsK .i16 m := ⟨_, rfl⟩
  rw [← hX, ← hY]
  have HX := Aside0.mk hX
  have HY := Aside0.mk hY
  have HL := Aside0.mk hl
  have HM := Aside0.mk hm
  clear hX hY hl hm
  go_enter Tryd.func42, Tryd.ntmps42
  go_wp2
  go_loopw [5] (fun i wr => ∃ n : Nat, n ≤ 26 ∧ i = .int .i64 n ∧ Aside0 (wr.heap[w.heap.size]? = some (.cells X 42 (0, 0))) ∧ Aside0 (wr.heap[w.heap.size + 1]? = some (.cells Y 42 (0, 0))) ∧ Aside0 (Below w.heap.size w wr) ∧ Aside0 (l.take n = m.take n)) (fun i _ => 26 - (intOf i).toNat)
  case atStart =>
    refine ⟨0, by omega, rfl, ⟨?_⟩, ⟨?_⟩, ⟨?_⟩, ⟨rfl⟩⟩
    · exact blk_alloc (blk_new w _) _
    · exact blk_at (by simp) _
    · exact ((Below.refl _ _).alloc (Nat.le_refl _) _).alloc (by simp) _
  case round =>
    obtain ⟨n, hn, rfl, H0, H1, HB, HE⟩ := hrel
    by_cases hlt : n < 26
    · have hltz : (n : Int) < 26 := by omega
      have c0 : wr.cell? ⟨w.heap.size, n, none⟩ = some (.int .i16 (rd l n)) := cellsK_cell (k := .i16) (l := l) (by rw [← HX.out]; exact H0.out) n (by have := HL.out; omega)
      have c1 : wr.cell? ⟨w.heap.size + 1, n, none⟩ = some (.int .i16 (rd m n)) := cellsK_cell (k := .i16) (l := m) (by rw [← HY.out]; exact H1.out) n (by have := HM.out; omega)
      obtain ⟨x, hx⟩ : ∃ x, rd l n = x := ⟨_, rfl⟩
      obtain ⟨y, hy⟩ : ∃ y, rd m n = y := ⟨_, rfl⟩
      rw [hx] at c0
      rw [hy] at c1
      have Hx := Aside0.mk hx
      have Hy := Aside0.mk hy
      clear hx hy
      cases hq : (x == y)
      · have hq2 : (x != y) = true := by rw [bne, hq]; rfl
        have HQ := Aside0.mk hq
        go_wp2_with fail
        repeat (go_quiet (fail); try go_wp2)
        go_ret
        refine ⟨?_, (by repeat (first | exact HB.out | apply below_alloc | apply pw_below_drewN | apply below_drew1))⟩
        rw [decide_eq_false (takeS_ne (n := n) (by have := HL.out; omega) (by have := HM.out; omega) (by rw [Hx.out, Hy.out]; simpa using HQ.out))]
        rfl
      · have hq2 : (x != y) = false := by rw [bne, hq]; rfl
        have HQ := Aside0.mk hq
        go_wp2_with fail
        repeat (go_quiet (fail); try go_wp2)
        go_roundw
        case rel => exact ⟨n + 1, by omega, by go_num, ⟨by repeat (first | exact H0.out | apply blk_drewN | apply blk_drew)⟩, ⟨by repeat (first | exact H1.out | apply blk_drewN | apply blk_drew)⟩, ⟨by repeat (first | exact HB.out | apply below_alloc | apply pw_below_drewN | apply below_drew1)⟩, ⟨takeS_step (by have := HL.out; omega) (by have := HM.out; omega) (by rw [Hx.out, Hy.out]; simpa using HQ.out) HE.out⟩⟩
        case measure => simp [intOf]; omega
    · have hltz : ¬ (n : Int) < 26 := by omega
      obtain rfl : n = 26 := by omega
      go_wp2
      go_ret
      refine ⟨?_, HB.out⟩
      have e : l = m := by
        have h := HE.out
        rwa [List.take_of_length_le (by have := HL.out; omega), List.take_of_length_le (by have := HM.out; omega)] at h
      rw [decide_eq_true e]
      rfl
theorem info_p26 : (Tryd.prog.info? 42).map (·.size) = some 26 := by kernel_rfl
set_option maxHeartbeats 2000000 in
theorem eqPrices_same (l : List Int) (hl : l.length = 29) (w : World) :
    Calls Tryd.prog 18 #[.agg (cellsK .i16 l), .agg (cellsK .i16 l)] w fun e w' => e = .returned (.bool true) ∧ Below w.heap.size w w' := by
  obtain ⟨X, hX⟩ : ∃ X, X = cellsK .i16 l := ⟨_, rfl⟩
  rw [← hX]
  have HX := Aside0.mk hX
  have HL := Aside0.mk hl
  clear hX hl
  have B0 : Aside0 (((w.alloc (.cells X 44 (0, 0))).alloc (.cells X 44 (0, 0))).heap[w.heap.size]? = some (.cells (cellsK .i16 l) 44 (0, 0))) := ⟨by rw [← HX.out]; exact blk_alloc (blk_new w _) _⟩
  have B1 : Aside0 (((w.alloc (.cells X 44 (0, 0))).alloc (.cells X 44 (0, 0))).heap[w.heap.size + 1]? = some (.cells (cellsK .i16 l) 44 (0, 0))) := ⟨by rw [← HX.out]; exact blk_at (by simp) _⟩
  have HB : Aside0 (Below w.heap.size w ((w.alloc (.cells X 44 (0, 0))).alloc (.cells X 44 (0, 0)))) := ⟨((Below.refl _ _).alloc (Nat.le_refl _) _).alloc (by simp) _⟩
  go_enter Tryd.func18, Tryd.ntmps18
  go_wp2_with (first
    | ((with_reducible refine gate_dst (N := 6) rfl ?_); refine ev_load_at rfl 42 (.tmp 5) rfl w.heap.size 0 26 .i16 l rfl 44 _ B0.out Tryd.underlying42 rfl (by have := HL.out; omega) info_p26 ?_)
    | ((with_reducible refine gate_dst (N := 8) rfl ?_); refine ev_load_at rfl 42 (.tmp 7) rfl (w.heap.size + 1) 0 26 .i16 l rfl 44 _ B1.out Tryd.underlying42 rfl (by have := HL.out; omega) info_p26 ?_))
  refine (eqInt16A26_calls _ _ (by have := HL.out; simp; omega) (by have := HL.out; simp; omega) _).mono ?_
  rintro e w1 ⟨rfl, hb⟩
  replace B0 := Aside0.mk (blk_below B0.out hb)
  replace B1 := Aside0.mk (blk_below B1.out hb)
  replace HB := Aside0.mk (below_step HB.out hb)
  clear hb
  rw [decide_eq_true rfl]
  have c0 : w1.cell? ⟨w.heap.size, 26, none⟩ = some (.int .i16 (rd l ((26 : Nat) : Int))) := cellsK_cell B0.out 26 (by have := HL.out; omega)
  have c1 : w1.cell? ⟨w.heap.size, 27, none⟩ = some (.int .i16 (rd l ((27 : Nat) : Int))) := cellsK_cell B0.out 27 (by have := HL.out; omega)
  have c2 : w1.cell? ⟨w.heap.size, 28, none⟩ = some (.int .i16 (rd l ((28 : Nat) : Int))) := cellsK_cell B0.out 28 (by have := HL.out; omega)
  have e0 : w1.cell? ⟨w.heap.size + 1, 26, none⟩ = some (.int .i16 (rd l ((26 : Nat) : Int))) := cellsK_cell B1.out 26 (by have := HL.out; omega)
  have e1 : w1.cell? ⟨w.heap.size + 1, 27, none⟩ = some (.int .i16 (rd l ((27 : Nat) : Int))) := cellsK_cell B1.out 27 (by have := HL.out; omega)
  have e2 : w1.cell? ⟨w.heap.size + 1, 28, none⟩ = some (.int .i16 (rd l ((28 : Nat) : Int))) := cellsK_cell B1.out 28 (by have := HL.out; omega)
  generalize rd l ((26 : Nat) : Int) = x at c0 e0
  generalize rd l ((27 : Nat) : Int) = y at c1 e1
  generalize rd l ((28 : Nat) : Int) = z at c2 e2
  go_wp2
  go_ret
  exact ⟨rfl, HB.out⟩
set_option maxHeartbeats 4000000 in
set_option maxRecDepth 100000 in
theorem readPrices_walk (s : ByteArray) (w : World) (hG : GlobOk w) :
    Calls Tryd.prog 5 #[.string s] w fun e w' => e = .returned (.bool true) ∧ Below w.heap.size w w' := by
  have HG := Aside0.mk hG
  have HB := Aside0.mk (Below.refl w.heap.size w)
  clear hG
  by_cases hs : s.size ≤ 1048576
  · have HS := Aside0.mk hs
    have hsz : decide ((1048576 : Int) < (s.size : Int)) = false := decide_eq_false (by omega)
    clear hs
    obtain ⟨C, hC⟩ : ∃ C, rpC s = C := ⟨_, rfl⟩
    have HL := Aside0.mk (rpC_len s)
    have HSP := specRdp_calls s HS.out
    have HIM := implRdp_calls s HS.out
    rw [hC] at HL HSP HIM
    clear hC
    obtain ⟨L, code⟩ := C
    have HSP2 := Aside0.mk HSP
    have HIM2 := Aside0.mk HIM
    clear HSP HIM
    go_enter Tryd.func5, Tryd.ntmps5
    go_wp2_with fail
    refine (HSP2.out _).mono ?_
    rintro e w1 ⟨rfl, hb⟩
    replace HB := Aside0.mk (below_step HB.out hb)
    clear hb
    dsimp only
    obtain ⟨X, hX⟩ : ∃ X, cellsK .i16 L = X := ⟨_, rfl⟩
    rw [hX]
    have HX := Aside0.mk hX
    clear hX
    go_wp2_with (first | ((with_reducible refine gate_dst (N := 3) rfl ?_); refine box_event ?hg (N := 3) ?hd (cs := #[.int .i16 0, .int .i16 0, .int .i16 0, .int .i16 0, .int .i16 0, .int .i16 0, .int .i16 0, .int .i16 0, .int .i16 0, .int .i16 0, .int .i16 0, .int .i16 0, .int .i16 0, .int .i16 0, .int .i16 0, .int .i16 0, .int .i16 0, .int .i16 0, .int .i16 0, .int .i16 0, .int .i16 0, .int .i16 0, .int .i16 0, .int .i16 0, .int .i16 0, .int .i16 0, .int .i16 0, .int .i16 0, .int .i16 0]) (t := 44) ?hr ?_; (case hd => rfl); (case hg => rfl); (case hr => first | (go_simp; done) | (go_simp; rfl)); intro g3 hg w2 hbox hb; have G3 := Aside0.mk (show w.heap.size ≤ g3 from by rw [hg]; exact HB.out.size); skip; have n0_ := Aside0.mk (below_step HB.out hb); clear HB; have HB := n0_; clear n0_; have B3 : Aside0 (w2.heap[g3]? = some (.cells (cellsK .i16 (List.replicate 29 0)) 44 (0, 0))) := ⟨hbox⟩; clear hg hb hbox) | ((with_reducible refine gate_store (t := 44) (p := 3) rfl ?_); refine ev_store_row rfl 44 (.tmp 3) (.tmp 13) rfl rfl g3 X rfl rfl _ _ B3.out (by rw [← HX.out]; exact info_rpl HL.out) (by rw [← HX.out, cellsK_size, cellsK_size, HL.out]; rfl) (by rw [← HX.out]; exact cellsK_one _ _) ?_; intro w3 hb1 hk hbel; skip; have n0_ := Aside0.mk (HB.out.trans (hbel _ G3.out)); clear HB; have HB := n0_; clear n0_; have n1_ := Aside0.mk hb1; clear B3; have B3 := n1_; clear n1_ hb1 hk hbel))
    refine (HIM2.out _ (HG.out.below HB.out)).mono ?_
    rintro e w4 ⟨rfl, hb⟩
    replace HB := Aside0.mk (below_step HB.out hb)
    replace B3 := Aside0.mk (blk_below B3.out hb)
    clear hb
    dsimp only
    rw [HX.out]
    go_wp2_with (first | ((with_reducible refine gate_dst (N := 5) rfl ?_); refine box_event ?hg (N := 5) ?hd (cs := #[.int .i16 0, .int .i16 0, .int .i16 0, .int .i16 0, .int .i16 0, .int .i16 0, .int .i16 0, .int .i16 0, .int .i16 0, .int .i16 0, .int .i16 0, .int .i16 0, .int .i16 0, .int .i16 0, .int .i16 0, .int .i16 0, .int .i16 0, .int .i16 0, .int .i16 0, .int .i16 0, .int .i16 0, .int .i16 0, .int .i16 0, .int .i16 0, .int .i16 0, .int .i16 0, .int .i16 0, .int .i16 0, .int .i16 0]) (t := 44) ?hr ?_; (case hd => rfl); (case hg => rfl); (case hr => first | (go_simp; done) | (go_simp; rfl)); intro g5 hg w5 hbox hb; have G5 := Aside0.mk (show w.heap.size ≤ g5 from by rw [hg]; exact HB.out.size); have NB35 := Aside0.mk (show g3 ≠ g5 from by rw [hg]; exact Nat.ne_of_lt (blk_lt B3.out)); have n2_ := Aside0.mk (blk_below B3.out hb); clear B3; have B3 := n2_; clear n2_; have n0_ := Aside0.mk (below_step HB.out hb); clear HB; have HB := n0_; clear n0_; have B5 : Aside0 (w5.heap[g5]? = some (.cells (cellsK .i16 (List.replicate 29 0)) 44 (0, 0))) := ⟨hbox⟩; clear hg hb hbox) | ((with_reducible refine gate_store (t := 44) (p := 5) rfl ?_); refine ev_store_row rfl 44 (.tmp 5) (.tmp 18) rfl rfl g5 X rfl rfl _ _ B5.out (by rw [← HX.out]; exact info_rpl HL.out) (by rw [← HX.out, cellsK_size, cellsK_size, HL.out]; rfl) (by rw [← HX.out]; exact cellsK_one _ _) ?_; intro w6 hb1 hk hbel; have n2_ := Aside0.mk ((hk.2 g3 (blk_lt B3.out) NB35.out).trans B3.out); clear B3; have B3 := n2_; clear n2_; have n0_ := Aside0.mk (HB.out.trans (hbel _ G5.out)); clear HB; have HB := n0_; clear n0_; have n1_ := Aside0.mk hb1; clear B5; have B5 := n1_; clear n1_ hb1 hk hbel) | ((with_reducible refine gate_dst (N := 20) rfl ?_); refine wpList_load_row rfl 44 (.tmp 5) rfl g5 rfl _ _ _ _ B5.out Tryd.underlying44 rfl (by rw [← HX.out]; exact info_rpl HL.out) ?_) | ((with_reducible refine gate_dst (N := 21) rfl ?_); refine wpList_load_row rfl 44 (.tmp 3) rfl g3 rfl _ _ _ _ B3.out Tryd.underlying44 rfl (by rw [← HX.out]; exact info_rpl HL.out) ?_))
    have heq := eqPrices_same L HL.out
    rw [HX.out] at heq
    refine (heq _).mono ?_
    rintro e w7 ⟨rfl, hb⟩
    have HX2 := Aside0.mk (below_step HB.out hb)
    clear hb heq
    go_wp2
    go_ret
    exact ⟨rfl, HX2.out⟩
  · have hsz : decide ((1048576 : Int) < (s.size : Int)) = true := decide_eq_true (by omega)
    clear hs
    go_enter Tryd.func5, Tryd.ntmps5
    go_wp2
    go_ret
    exact ⟨rfl, HB.out⟩
end Go.Proofs.YtfnhjoemmiepiaaDoor.Ext
namespace Go.Proofs.YtfnhjoemmiepiaaDoor.Open
open Go.ChangeShapes Go.WideShapes Go.ChangeAt Go.RowKit Go.Proofs.YtfnhjoemmiepiaaDoor.Ext Go.Proofs.YtfnhjoemmiepiaaDoorW.PrintWords
set_option linter.unusedVariables false
set_option linter.unusedSimpArgs false
variable {H : Type} {enc : TypeId × Value → H} {P : Program} {w : World} {spare : Nat → Bool} {held : Bool} {t : TypeId}
end Go.Proofs.YtfnhjoemmiepiaaDoor.Open
