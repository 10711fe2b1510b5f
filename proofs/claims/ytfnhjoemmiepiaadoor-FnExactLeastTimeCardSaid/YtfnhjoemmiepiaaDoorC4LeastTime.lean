/- Contracts and plain laws of functions of the given program; no conditions beside those in the theorems. -/
import Derived.Test.YtfnhjoemmiepiaaDoorC3LeastTime
import Derived.Test.YtfnhjoemmiepiaaDoorShelf
import Derived.Lib.Split
import Derived.Lib.Replace
import Derived.Lib.SplitLaws
import Derived.Test.YtfnhjoemmiepiaaDoorC1LeastTime
import Derived.Test.YtfnhjoemmiepiaaDoorC0LeastTime
import Derived.Lib.IndexMore
import Derived.Lib.TrimByte
namespace Go.Proofs.YtfnhjoemmiepiaaDoor.Ext
open Go.RowKit Go.Proofs.YtfnhjoemmiepiaaDoorW.PrintWords Go.Proofs.YtfnhjoemmiepiaaDoorW.PrintLast Go.Proofs.YtfnhjoemmiepiaaDoorW.PrintMore
set_option linter.unusedVariables false
set_option linter.unusedSimpArgs false
theorem ba_ext {a b : ByteArray} (h : a.data.toList = b.data.toList) : a = b := by
  apply ByteArray.ext
  exact Array.toList_inj.1 h
def strings_Trim.f (s c : ByteArray) : Option ByteArray := if c.data.toList = [32] ∧ s.size ≤ 9223372036854775807 then some ⟨(Lib.trimB s.data.toList 32).toArray⟩ else none
theorem strings_Trim.calls (a0 a1 : ByteArray) (r : ByteArray) (w : World) (h : strings_Trim.f a0 a1 = some r) :
    Calls Tryd.prog 53 #[.string a0, .string a1] w fun e w' => e = .returned (.string r) ∧ Below w.heap.size w w' := by
  unfold strings_Trim.f at h
  split at h
  · rename_i hc
    obtain ⟨h1, h2⟩ := hc
    obtain rfl := Option.some.inj h
    obtain rfl : a1 = ⟨#[32]⟩ := ba_ext h1
    exact (Tryd.strings_Trim_one a0 32 (by decide) w h2).mono fun e w' ⟨h3, h4⟩ => ⟨h3, by
      rcases h4 with rfl | rfl
      · exact Below.refl _ _
      · exact (Below.refl _ _).drew⟩
  · cases h
def strings_Contains.f (s c : ByteArray) : Option Bool := if s.size < 4294967281 then some (Lib.contains s.data.toList c.data.toList) else none
theorem strings_Contains.calls (a0 a1 : ByteArray) (r : Bool) (w : World) (hG : GlobM w) (h : strings_Contains.f a0 a1 = some r) :
    Calls Tryd.prog 62 #[.string a0, .string a1] w fun e w' => e = .returned (.bool r) ∧ Below w.heap.size w w' := by
  unfold strings_Contains.f at h
  split at h
  · rename_i hc
    obtain rfl := Option.some.inj h
    obtain ⟨m, hm⟩ := hG.m
    exact (Tryd.strings_Contains a0 a1 m w hc hm).mono fun e w' ⟨h3, h4⟩ => ⟨h3, by subst h4; exact Below.refl _ _⟩
  · cases h
theorem index_cons_self (c : UInt8) (l : List UInt8) : Lib.index (c :: l) [c] = (0 : Nat) := by rw [Lib.index_one]; simp [Lib.indexByte]
theorem index_cons_miss {x c : UInt8} (hx : x ≠ c) {l : List UInt8} (h : Lib.index l [c] = -1) : Lib.index (x :: l) [c] = -1 := by
  rw [Lib.index_one] at h ⊢
  simp [Lib.indexByte, hx, h]
theorem index_cons_hit {x c : UInt8} (hx : x ≠ c) {l : List UInt8} {i : Nat} (h : Lib.index l [c] = i) : Lib.index (x :: l) [c] = (i + 1 : Nat) := by
  rw [Lib.index_one] at h ⊢
  have h0 : ¬ ((i : Int) == -1) = true := by rw [beq_iff_eq]; omega
  have hb : ¬ (x == c) = true := by simpa using hx
  rw [Lib.indexByte, if_neg hb, h, if_neg h0]
  omega
theorem index_two (c : UInt8) (l : List UInt8) : Lib.index l [c] = -1 ∨ ∃ i : Nat, Lib.index l [c] = i := by
  have := Lib.index_ge l [c]
  by_cases h : Lib.index l [c] = -1
  · exact .inl h
  · exact .inr ⟨(Lib.index l [c]).toNat, by omega⟩
theorem count_one (c : UInt8) : ∀ (l : List UInt8) (k : Nat), l.length < k → Lib.countFrom [c] k l = l.count c
  | _, 0, h => absurd h (Nat.not_lt_zero _)
  | [], k + 1, h => by simp [Lib.countFrom, show Lib.index [] [c] = -1 from rfl]
  | x :: l, k + 1, h => by
    by_cases hx : x = c
    · subst hx
      have hb : ¬ (((0 : Nat) : Int) == -1) = true := by decide
      rw [Lib.countFrom, index_cons_self, if_neg hb]
      simp only [Int.toNat_natCast, List.length_singleton, Nat.zero_add, List.drop_one, List.tail_cons]
      rw [count_one x l k (by simp at h; omega)]
      simp; omega
    · have ih := count_one c l (k + 1) (by simp at h; omega)
      rw [List.count_cons_of_ne (by simpa using hx), ← ih]
      rcases index_two c l with hm | ⟨i, hi⟩
      · simp only [Lib.countFrom, index_cons_miss hx hm, hm, BEq.rfl, if_true]
      · have hb : ¬ ((i : Int) == -1) = true := by rw [beq_iff_eq]; omega
        have hb' : ¬ (((i + 1 : Nat) : Int) == -1) = true := by rw [beq_iff_eq]; omega
        simp only [Lib.countFrom, index_cons_hit hx hi, hi, if_neg hb, if_neg hb', Int.toNat_natCast, List.length_singleton, List.drop_succ_cons]
theorem replaceK_one (c : UInt8) : ∀ (l : List UInt8) (k : Nat), l.count c ≤ k → Lib.replaceK [c] [] k l = l.filter (fun b => b != c)
  | [], k, _ => by
    cases k
    · rfl
    · simp [Lib.replaceK, show Lib.index [] [c] = -1 from rfl]
  | x :: l, k, h => by
    by_cases hx : x = c
    · subst hx
      cases k with
      | zero => simp at h
      | succ k =>
        rw [Lib.replaceK_hit _ _ _ _ 0 (index_cons_self x l)]
        simp only [List.take_zero, List.nil_append, Nat.zero_add, List.length_singleton, List.drop_one, List.tail_cons]
        rw [replaceK_one x l k (by simp at h; omega)]
        simp
    · have ih := replaceK_one c l k (by rw [List.count_cons_of_ne (by simpa using hx)] at h; exact h)
      have e : (x :: l).filter (fun b => b != c) = x :: l.filter (fun b => b != c) := by simp [hx]
      rw [e, ← ih]
      cases k with
      | zero => rfl
      | succ k =>
        rcases index_two c l with hm | ⟨i, hi⟩
        · simp only [Lib.replaceK, index_cons_miss hx hm, hm, BEq.rfl, if_true]
        · rw [Lib.replaceK_hit _ _ _ _ _ (index_cons_hit hx hi), Lib.replaceK_hit _ _ _ _ _ hi]
          simp
theorem replaceAll_one (s : List UInt8) (c : UInt8) : Lib.replaceAll s [c] [] = s.filter (fun b => b != c) := by
  unfold Lib.replaceAll Lib.replace Lib.replaceNum
  rw [if_neg (by simp), if_pos (by omega)]
  exact replaceK_one c s _ (by unfold Lib.count; rw [count_one c s _ (by omega)]; exact Nat.le_refl _)
def strings_ReplaceAll.f (s old new : ByteArray) : Option ByteArray := if (old.data.toList = [32] ∧ new.data.toList = []) ∧ s.size < 4294967281 then some ⟨(s.data.toList.filter (fun b => b != 32)).toArray⟩ else none
theorem strings_ReplaceAll.calls (a0 a1 a2 : ByteArray) (r : ByteArray) (w : World) (hG : GlobM w) (h : strings_ReplaceAll.f a0 a1 a2 = some r) :
    Calls Tryd.prog 59 #[.string a0, .string a1, .string a2] w fun e w' => e = .returned (.string r) ∧ Below w.heap.size w w' := by
  unfold strings_ReplaceAll.f at h
  split at h
  · rename_i hc
    obtain ⟨⟨h1, h2⟩, h3⟩ := hc
    obtain rfl := Option.some.inj h
    obtain rfl : a1 = ⟨#[32]⟩ := ba_ext h1
    obtain rfl : a2 = ⟨#[]⟩ := ba_ext h2
    obtain ⟨m, hm⟩ := hG.m
    refine (Tryd.strings_ReplaceAll a0 ⟨#[32]⟩ ⟨#[]⟩ m w h3 hm (by decide) (by rw [show (⟨#[]⟩ : ByteArray).size = 0 from rfl, Nat.mul_zero]; omega)).mono fun e w' ⟨h4, h5⟩ => ⟨?_, h5⟩
    rw [h4, ← replaceAll_one]
  · cases h
end Go.Proofs.YtfnhjoemmiepiaaDoor.Ext
namespace Go.Proofs.YtfnhjoemmiepiaaDoor.Q
open Go.Proofs.YtfnhjoemmiepiaaDoor.Ext
open Go.RowKit Go.Proofs.YtfnhjoemmiepiaaDoorW.PrintWords Go.Proofs.YtfnhjoemmiepiaaDoorW.PrintLast Go.Proofs.YtfnhjoemmiepiaaDoorW.PrintMore
attribute [local go_sem] max2_int min2_int max_two min_two max_three min_three max_four min_four
set_option linter.unusedVariables false
set_option linter.unusedSimpArgs false
def laws_toChisel.f (a0_0 : Int) (a0_1 : Int) : Option (Int × Int) := some (a0_0, a0_1)
set_option maxHeartbeats 8000000 in
set_option maxRecDepth 100000 in
theorem laws_toChisel.calls (a0_0 a0_1 r1 r2 : Int) (w : World) (h : laws_toChisel.f a0_0 a0_1 = some (r1, r2)) :
    Calls Tryd.prog 9 #[.agg #[.int .i16 a0_0, .int .i8 a0_1]] w fun e w' => e = .returned (.agg #[.int .i16 r1, .int .i8 r2]) ∧ Below w.heap.size w w' := by
  have hu26 := Tryd.underlying26
  have hu31 := Tryd.underlying31
  have HB := Aside0.mk (Below.refl w.heap.size w)
  have H : (some (a0_0, a0_1)) = some (r1, r2) := h
  clear h
  simp only [Option.some.injEq, Prod.mk.injEq] at H
  obtain ⟨rfl, rfl⟩ := H
  go_enter Tryd.func9, Tryd.ntmps9
  go_wp2_with (first | ((with_reducible refine gate_dst (N := 1) rfl ?_); refine box_event ?hg (N := 1) ?hd (cs := #[.int .i16 a0_0, .int .i8 a0_1]) (t := 26) ?hr ?_; (case hd => rfl); (case hg => rfl); (case hr => first | (go_simp; done) | (go_simp; rfl)); intro gb145 hg w2 hbox hb; have n0_ := Aside0.mk (below_step (by repeat (first | (with_reducible first | exact HB.out | apply below_alloc | apply pw_below_drewN | apply below_drew1) | exact HB.out)) hb); have n1_ := Aside0.mk (hbox); have n2_ := Aside0.mk ((by rw [hg]; exact (below_size (by repeat (first | (with_reducible first | exact HB.out | apply below_alloc | apply pw_below_drewN | apply below_drew1) | exact HB.out))) : w.heap.size ≤ gb145)); have n3_ := Aside0.mk (n2_.out); clear HB; have HB := n0_; have BK145 := n1_; have GW145 := n2_; have GE145 := n3_; clear n0_ n1_ n2_ n3_; clear hb hbox hg) | ((with_reducible refine gate_dst (N := 2) rfl ?_); refine box_event ?hg (N := 2) ?hd (cs := #[.int .i16 0, .int .i8 0]) (t := 31) ?hr ?_; (case hd => rfl); (case hg => rfl); (case hr => first | (go_simp; done) | (go_simp; rfl)); intro gb146 hg w3 hbox hb; have n0_ := Aside0.mk (blk_below (g := gb145) (by (with_reducible repeat (first | refine blk_drewN ?_ _ | refine blk_drew ?_ | refine blk_alloc ?_ _)); exact BK145.out) hb); have n1_ := Aside0.mk (below_step (by repeat (first | (with_reducible first | exact HB.out | apply below_alloc | apply pw_below_drewN | apply below_drew1 | refine below_set ?_ GE145.out) | exact HB.out)) hb); have n2_ := Aside0.mk (hbox); have n3_ := Aside0.mk ((by rw [hg]; exact (below_size (by repeat (first | (with_reducible first | exact HB.out | apply below_alloc | apply pw_below_drewN | apply below_drew1 | refine below_set ?_ GE145.out) | exact HB.out))) : w.heap.size ≤ gb146)); have n4_ := Aside0.mk (n3_.out); have n5_ := Aside0.mk ((by rw [hg]; exact Nat.ne_of_lt (blk_lt (g := gb145) (by (with_reducible repeat (first | refine blk_drewN ?_ _ | refine blk_drew ?_ | refine blk_alloc ?_ _)); exact BK145.out)) : gb145 ≠ gb146)); have n6_ := Aside0.mk ((Ne.symm n5_.out)); clear BK145; clear HB; have BK145 := n0_; have HB := n1_; have BK146 := n2_; have GW146 := n3_; have GE146 := n4_; have NB145_146 := n5_; have NB146_145 := n6_; clear n0_ n1_ n2_ n3_ n4_ n5_ n6_; clear hb hbox hg) | ((with_reducible refine gate_dst (N := 3) rfl ?_); refine box_event ?hg (N := 3) ?hd (cs := #[.int .i16 0, .int .i8 0]) (t := 31) ?hr ?_; (case hd => rfl); (case hg => rfl); (case hr => first | (go_simp; done) | (go_simp; rfl)); intro gb147 hg w4 hbox hb; have n0_ := Aside0.mk (blk_below (g := gb145) (by (with_reducible repeat (first | refine blk_drewN ?_ _ | refine blk_drew ?_ | refine blk_alloc ?_ _)); exact BK145.out) hb); have n1_ := Aside0.mk (blk_below (g := gb146) (by (with_reducible repeat (first | refine blk_drewN ?_ _ | refine blk_drew ?_ | refine blk_alloc ?_ _)); exact BK146.out) hb); have n2_ := Aside0.mk (below_step (by repeat (first | (with_reducible first | exact HB.out | apply below_alloc | apply pw_below_drewN | apply below_drew1 | refine below_set ?_ GE145.out | refine below_set ?_ GE146.out) | exact HB.out)) hb); have n3_ := Aside0.mk (hbox); have n4_ := Aside0.mk ((by rw [hg]; exact (below_size (by repeat (first | (with_reducible first | exact HB.out | apply below_alloc | apply pw_below_drewN | apply below_drew1 | refine below_set ?_ GE145.out | refine below_set ?_ GE146.out) | exact HB.out))) : w.heap.size ≤ gb147)); have n5_ := Aside0.mk (n4_.out); have n6_ := Aside0.mk ((by rw [hg]; exact Nat.ne_of_lt (blk_lt (g := gb145) (by (with_reducible repeat (first | refine blk_drewN ?_ _ | refine blk_drew ?_ | refine blk_alloc ?_ _)); exact BK145.out)) : gb145 ≠ gb147)); have n7_ := Aside0.mk ((Ne.symm n6_.out)); have n8_ := Aside0.mk ((by rw [hg]; exact Nat.ne_of_lt (blk_lt (g := gb146) (by (with_reducible repeat (first | refine blk_drewN ?_ _ | refine blk_drew ?_ | refine blk_alloc ?_ _)); exact BK146.out)) : gb146 ≠ gb147)); have n9_ := Aside0.mk ((Ne.symm n8_.out)); clear BK145; clear BK146; clear HB; have BK145 := n0_; have BK146 := n1_; have HB := n2_; have BK147 := n3_; have GW147 := n4_; have GE147 := n5_; have NB145_147 := n6_; have NB147_145 := n7_; have NB146_147 := n8_; have NB147_146 := n9_; clear n0_ n1_ n2_ n3_ n4_ n5_ n6_ n7_ n8_ n9_; clear hb hbox hg; have hnb5 := NB145_146.out; have hnc5 := NB146_145.out; have hnb6 := NB145_147.out; have hnc6 := NB147_145.out; have hcz7_0 : w4.cell? ⟨gb145, 0, none⟩ = some (.int .i16 a0_0) := (blk_cell BK145.out 0).trans rfl; have hcz7_1 : w4.cell? ⟨gb145, 1, none⟩ = some (.int .i8 a0_1) := (blk_cell BK145.out 1).trans rfl; have hfz7_0 := blk_frozen BK145.out 0; have hfz7_1 := blk_frozen BK145.out 1; have hnb8 := NB147_146.out; have hnc8 := NB146_147.out; have hcz9_0 : w4.cell? ⟨gb147, 0, none⟩ = some (.int .i16 0) := (blk_cell BK147.out 0).trans rfl; have hcz9_1 : w4.cell? ⟨gb147, 1, none⟩ = some (.int .i8 0) := (blk_cell BK147.out 1).trans rfl; have hfz9_0 := blk_frozen BK147.out 0; have hfz9_1 := blk_frozen BK147.out 1; have hcz10_0 : w4.cell? ⟨gb146, 0, none⟩ = some (.int .i16 0) := (blk_cell BK146.out 0).trans rfl; have hcz10_1 : w4.cell? ⟨gb146, 1, none⟩ = some (.int .i8 0) := (blk_cell BK146.out 1).trans rfl; have hfz10_0 := blk_frozen BK146.out 0; have hfz10_1 := blk_frozen BK146.out 1))
  refine bodyPost_ret (results_cell_row rfl _ _ gb146 31 #[.int .i16 a0_0, .int .i8 a0_1] (0, 0) _ rfl (by (with_reducible repeat (first | refine blk_drewN ?_ _ | refine blk_drew ?_ | refine blk_alloc ?_ _)); refine blk_put (cs := #[.int .i16 a0_0, .int .i8 0]) ?_ 1 _ rfl; refine blk_put (cs := #[.int .i16 0, .int .i8 0]) ?_ 0 _ rfl; refine blk_far ?_ NB146_147.out _; refine blk_far ?_ NB146_147.out _; (with_reducible repeat (first | refine blk_drewN ?_ _ | refine blk_drew ?_ | refine blk_alloc ?_ _)); exact BK146.out) Tryd.underlying31 rfl (by kernel_rfl)) rfl ?_
  exact ⟨by first | rfl | (simp [errW_none, errW_some, i64_w]; done) | (simp [errW_none, errW_some] <;> rfl) | (simp [*, errW_none, errW_some] <;> rfl), by repeat (first | (with_reducible first | exact HB.out | apply below_alloc | apply pw_below_drewN | apply below_drew1 | refine below_set ?_ GE145.out | refine below_set ?_ GE146.out | refine below_set ?_ GE147.out) | exact HB.out)⟩
def impl_isLetter.f (a0 : Int) : Option (Bool) := if a0 ≥ 65 then (some (decide (a0 ≤ 90))) else (some false)
set_option maxHeartbeats 8000000 in
set_option maxRecDepth 100000 in
theorem impl_isLetter.calls (a0 : Int) (r : Bool) (w : World) (h : impl_isLetter.f a0 = some r) :
    Calls Tryd.prog 61 #[.int .u8 a0] w fun e w' => e = .returned (.bool r) ∧ Drawn0 w w' := by
  have H : (if a0 ≥ 65 then (some (decide (a0 ≤ 90))) else (some false)) = some r := h
  clear h
  by_cases c2 : a0 ≥ 65
  · rw [if_pos c2] at H
    have c2b0 : decide (65 ≤ a0) = true := decide_eq_true c2
    clear c2
    obtain rfl := Option.some.inj H
    go_enter Tryd.func61, Tryd.ntmps61
    go_wp2
    go_ret
    exact ⟨by first | rfl | (simp; done) | (simp [*]; done), by repeat (first | exact Drawn0.refl _ | apply Drawn0.step)⟩
  · rw [if_neg c2] at H
    have c2b0 : decide (65 ≤ a0) = false := decide_eq_false c2
    clear c2
    obtain rfl := Option.some.inj H
    go_enter Tryd.func61, Tryd.ntmps61
    go_wp2
    go_ret
    exact ⟨by first | rfl | (simp; done) | (simp [*]; done), by repeat (first | exact Drawn0.refl _ | apply Drawn0.step)⟩
end Go.Proofs.YtfnhjoemmiepiaaDoor.Q
namespace Go.Proofs.YtfnhjoemmiepiaaDoor.Ext
end Go.Proofs.YtfnhjoemmiepiaaDoor.Ext
namespace Go.Proofs.YtfnhjoemmiepiaaDoor.Q
open Go.Proofs.YtfnhjoemmiepiaaDoor.Ext
open Go.RowKit Go.Proofs.YtfnhjoemmiepiaaDoorW.PrintWords Go.Proofs.YtfnhjoemmiepiaaDoorW.PrintLast Go.Proofs.YtfnhjoemmiepiaaDoorW.PrintMore
attribute [local go_sem] max2_int min2_int max_two min_two max_three min_three max_four min_four
set_option linter.unusedVariables false
set_option linter.unusedSimpArgs false
def impl_isSpaced.l0 : Nat → ByteArray → Int → Int → Option (Bool)
  | 0, _, _, _ => none
  | k + 1, x0, x5, x6 => if x6 < x5 then (if 0 ≤ x6 then (if x6 < (x0.size : Int) then ((impl_isLetter.f (bt x0 x6)).bind fun t149 => (if t149 = true then (impl_isSpaced.l0 k x0 x5 (wrap64 (x6 + 1))) else (if (bt x0 x6) = 32 then (impl_isSpaced.l0 k x0 x5 (wrap64 (x6 + 1))) else (some false)))) else (none)) else (none)) else ((strings_Contains.f x0 (⟨#[32, 32]⟩ : ByteArray)).bind fun t150 => (some (!t150)))
def impl_isSpaced.f (k : Nat) (a0 : ByteArray) : Option (Bool) := impl_isSpaced.l0 k a0 (a0.size : Int) 0
theorem impl_isSpaced.mono_l : ∀ k, (∀ y0 y1 y2, LeO (impl_isSpaced.l0 k y0 y1 y2) (impl_isSpaced.l0 (k + 1) y0 y1 y2))
  | 0 => fun _ _ _ r h => by simp [impl_isSpaced.l0] at h
  | k + 1 => by
    have ih0 := impl_isSpaced.mono_l k
    · intro y0 y1 y2
      unfold impl_isSpaced.l0
      repeat' first
      | (with_reducible exact ih0 _ _ _)
      | (with_reducible exact LeO.refl _)
      | (with_reducible exact LeO.none _)
      | (with_reducible refine LeO.ite ?_ ?_)
      | (with_reducible refine LeO.bind ?_ (fun _ => ?_))
      | exact ih0 _ _ _
      | exact LeO.none _
      | refine LeO.ite ?_ ?_
      | refine LeO.bind ?_ (fun _ => ?_)
theorem impl_isSpaced.mono : ∀ a0 k, LeO (impl_isSpaced.f k a0) (impl_isSpaced.f (k + 1) a0) := by
  intro a0 k
  have ih0 := impl_isSpaced.mono_l k
  unfold impl_isSpaced.f
  repeat' first
      | (with_reducible exact ih0 _ _ _)
      | (with_reducible exact LeO.refl _)
      | (with_reducible exact LeO.none _)
      | (with_reducible refine LeO.ite ?_ ?_)
      | (with_reducible refine LeO.bind ?_ (fun _ => ?_))
      | exact ih0 _ _ _
      | exact LeO.none _
      | refine LeO.ite ?_ ?_
      | refine LeO.bind ?_ (fun _ => ?_)
set_option maxHeartbeats 8000000 in
set_option maxRecDepth 100000 in
theorem impl_isSpaced.calls (k : Nat) (a0 : ByteArray) (r : Bool) (w : World) (hG : GlobM w) (h : impl_isSpaced.f k a0 = some r) :
    Calls Tryd.prog 52 #[.string a0] w fun e w' => e = .returned (.bool r) ∧ Below w.heap.size w w' := by
  have HG := Aside0.mk hG
  clear hG
  have HB := Aside0.mk (Below.refl w.heap.size w)
  have H : (impl_isSpaced.l0 k a0 (a0.size : Int) 0) = some r := h
  clear h
  have H' := Aside0.mk H
  clear H
  go_enter Tryd.func52, Tryd.ntmps52
  go_wp2
  go_loopg [6] k (fun kq v6 w' => ∃ (x6_1 : Int), v6 = .int .i64 x6_1 ∧ Aside0 (impl_isSpaced.l0 kq a0 (a0.size : Int) x6_1 = some r) ∧ Aside0 (kq ≤ k) ∧ Aside0 (Below w.heap.size w w'))
  case atStart => exact ⟨(0), (by first | rfl | (simp; done) | (simp [*]; done)), H', ⟨Nat.le_refl _⟩, ⟨by repeat (first | (with_reducible first | exact HB.out | apply below_alloc | apply pw_below_drewN | apply below_drew1) | exact HB.out)⟩⟩
  case round =>
    clear H'
    obtain ⟨x6_1, rfl, HA, HK1, HB⟩ := hrel
    cases gk with
    | zero => exact absurd HA.out (by simp [impl_isSpaced.l0])
    | succ k1 =>
      have H := HA.out
      clear HA
      simp only [impl_isSpaced.l0] at H
      by_cases c2 : x6_1 < (a0.size : Int)
      · rw [if_pos c2] at H
        have c2b0 : decide (x6_1 < (a0.size : Int)) = true := decide_eq_true c2
        clear c2
        by_cases c3 : 0 ≤ x6_1
        · rw [if_pos c3] at H
          have c3b0 : decide (0 ≤ x6_1) = true := decide_eq_true c3
          clear c3
          by_cases c4 : x6_1 < (a0.size : Int)
          · rw [if_pos c4] at H
            have c4b0 : decide (x6_1 < (a0.size : Int)) = true := decide_eq_true c4
            clear c4
            replace H := Option.bind_eq_some_iff.mp H
            obtain ⟨t149, A60, H⟩ := H
            replace H : (if t149 = true then (impl_isSpaced.l0 k1 a0 (a0.size : Int) (wrap64 (x6_1 + 1))) else (if (bt a0 x6_1) = 32 then (impl_isSpaced.l0 k1 a0 (a0.size : Int) (wrap64 (x6_1 + 1))) else (some false))) = some r := H
            have A6 := Aside0.mk A60
            clear A60
            by_cases c7 : t149 = true
            · subst c7
              have H1 : (impl_isSpaced.l0 k1 a0 (a0.size : Int) (wrap64 (x6_1 + 1))) = some r := by rw [if_pos rfl] at H; exact H
              clear H
              have H := H1
              clear H1
              have H' := Aside0.mk H
              clear H
              have p5 : 0 ≤ (x6_1 : Int) := of_decide_eq_true (by first | (with_reducible assumption) | assumption)
              have q5 : x6_1 < (a0.size : Int) := of_decide_eq_true (by first | (with_reducible assumption) | assumption)
              have hx5 := bt_at a0 x6_1
              replace p5 := eq_true p5
              replace q5 := eq_true q5
              go_wp2_with (first | ((with_reducible refine gate_callee (f := 61) rfl ?_); refine goesL_ (some 12) rfl rfl Tryd.func61 (by kernel_rfl) rfl #[.int .u8 (bt a0 x6_1)] rfl (by (try simp only [List.map_toArray, List.map_cons, List.map_nil]); first | done | rfl | (simp only [List.length_drop, List.length_take]; rfl)) ?_; (with_reducible refine (impl_isLetter.calls (bt a0 x6_1) true _ A6.out).mono ?_); rintro e w' ⟨rfl, ⟨nd, rfl⟩⟩; refine ⟨_, rfl, ?_⟩))
              go_roundg k1
              case measure => have := HK1.out; omega
              case rel => exact ⟨(wrap64 (x6_1 + 1)), (by first | rfl | (simp; done) | (simp [*]; done)), H', ⟨by have := HK1.out; omega⟩, ⟨by repeat (first | (with_reducible first | exact HB.out | apply below_alloc | apply pw_below_drewN | apply below_drew1) | exact HB.out)⟩⟩
            · replace c7 := Bool.eq_false_iff.mpr c7
              subst c7
              have H1 : (if (bt a0 x6_1) = 32 then (impl_isSpaced.l0 k1 a0 (a0.size : Int) (wrap64 (x6_1 + 1))) else (some false)) = some r := by rw [if_neg (show ¬ (false = true) by decide)] at H; exact H
              clear H
              have H := H1
              clear H1
              by_cases c9 : (bt a0 x6_1) = 32
              · rw [if_pos c9] at H
                have c9b0 : ((bt a0 x6_1) == 32) = true := beq_iff_eq.mpr c9
                have c9b1 : ((bt a0 x6_1) != 32) = false := bne_eq_false_iff_eq.mpr c9
                clear c9
                have H' := Aside0.mk H
                clear H
                have p5 : 0 ≤ (x6_1 : Int) := of_decide_eq_true (by first | (with_reducible assumption) | assumption)
                have q5 : x6_1 < (a0.size : Int) := of_decide_eq_true (by first | (with_reducible assumption) | assumption)
                have hx5 := bt_at a0 x6_1
                replace p5 := eq_true p5
                replace q5 := eq_true q5
                go_wp2_with (first | ((with_reducible refine gate_callee (f := 61) rfl ?_); refine goesL_ (some 12) rfl rfl Tryd.func61 (by kernel_rfl) rfl #[.int .u8 (bt a0 x6_1)] rfl (by (try simp only [List.map_toArray, List.map_cons, List.map_nil]); first | done | rfl | (simp only [List.length_drop, List.length_take]; rfl)) ?_; (with_reducible refine (impl_isLetter.calls (bt a0 x6_1) false _ A6.out).mono ?_); rintro e w' ⟨rfl, ⟨nd, rfl⟩⟩; refine ⟨_, rfl, ?_⟩; have p8 : 0 ≤ (x6_1 : Int) := of_decide_eq_true (by first | (with_reducible assumption) | assumption); have q8 : x6_1 < (a0.size : Int) := of_decide_eq_true (by first | (with_reducible assumption) | assumption); have hx8 := bt_at a0 x6_1; replace p8 := eq_true p8; replace q8 := eq_true q8))
                go_roundg k1
                case measure => have := HK1.out; omega
                case rel => exact ⟨(wrap64 (x6_1 + 1)), (by first | rfl | (simp; done) | (simp [*]; done)), H', ⟨by have := HK1.out; omega⟩, ⟨by repeat (first | (with_reducible first | exact HB.out | apply below_alloc | apply pw_below_drewN | apply below_drew1) | exact HB.out)⟩⟩
              · rw [if_neg c9] at H
                have c9b0 : ((bt a0 x6_1) == 32) = false := beq_eq_false_iff_ne.mpr c9
                have c9b1 : ((bt a0 x6_1) != 32) = true := bne_iff_ne.mpr c9
                obtain rfl := Option.some.inj H
                have p5 : 0 ≤ (x6_1 : Int) := of_decide_eq_true (by first | (with_reducible assumption) | assumption)
                have q5 : x6_1 < (a0.size : Int) := of_decide_eq_true (by first | (with_reducible assumption) | assumption)
                have hx5 := bt_at a0 x6_1
                replace p5 := eq_true p5
                replace q5 := eq_true q5
                go_wp2_with (first | ((with_reducible refine gate_callee (f := 61) rfl ?_); refine goesL_ (some 12) rfl rfl Tryd.func61 (by kernel_rfl) rfl #[.int .u8 (bt a0 x6_1)] rfl (by (try simp only [List.map_toArray, List.map_cons, List.map_nil]); first | done | rfl | (simp only [List.length_drop, List.length_take]; rfl)) ?_; (with_reducible refine (impl_isLetter.calls (bt a0 x6_1) false _ A6.out).mono ?_); rintro e w' ⟨rfl, ⟨nd, rfl⟩⟩; refine ⟨_, rfl, ?_⟩; have p8 : 0 ≤ (x6_1 : Int) := of_decide_eq_true (by first | (with_reducible assumption) | assumption); have q8 : x6_1 < (a0.size : Int) := of_decide_eq_true (by first | (with_reducible assumption) | assumption); have hx8 := bt_at a0 x6_1; replace p8 := eq_true p8; replace q8 := eq_true q8))
                go_ret
                exact ⟨by first | rfl | (simp [errW_none, errW_some, i64_w]; done) | (simp [errW_none, errW_some] <;> rfl) | (simp [*, errW_none, errW_some] <;> rfl), by repeat (first | (with_reducible first | exact HB.out | apply below_alloc | apply pw_below_drewN | apply below_drew1) | exact HB.out)⟩
          · rw [if_neg c4] at H
            exact absurd H (by simp)
        · rw [if_neg c3] at H
          exact absurd H (by simp)
      · rw [if_neg c2] at H
        have c2b0 : decide (x6_1 < (a0.size : Int)) = false := decide_eq_false c2
        clear c2
        replace H := Option.bind_eq_some_iff.mp H
        obtain ⟨t150, A100, H⟩ := H
        replace H : (some (!t150)) = some r := H
        have A10 := Aside0.mk A100
        clear A100
        obtain rfl := Option.some.inj H
        go_wp2_with (first | ((with_reducible refine gate_callee (f := 62) rfl ?_); refine goesL_ (some 22) rfl rfl Tryd.func62 (by kernel_rfl) rfl #[.string a0, .string (⟨#[32, 32]⟩ : ByteArray)] rfl (by (try simp only [List.map_toArray, List.map_cons, List.map_nil]); first | done | rfl | (simp only [List.length_drop, List.length_take]; rfl)) ?_; (with_reducible refine (strings_Contains.calls a0 (⟨#[32, 32]⟩ : ByteArray) t150 _ ?sideG A10.out).mono ?_); (case sideG => first | exact HG.out.below (by repeat (first | (with_reducible first | exact HB.out | apply below_alloc | apply pw_below_drewN | apply below_drew1) | exact HB.out)) | exact (HG.out.below (by repeat (first | (with_reducible first | exact HB.out | apply below_alloc | apply pw_below_drewN | apply below_drew1) | exact HB.out))).toM); rintro e w11 ⟨rfl, hb⟩; refine ⟨_, rfl, ?_⟩; have n0_ := Aside0.mk (below_step (by repeat (first | (with_reducible first | exact HB.out | apply below_alloc | apply pw_below_drewN | apply below_drew1) | exact HB.out)) hb); clear HB; have HB := n0_; clear n0_; (try clear hb); (try clear hb2); (try clear hk); (try clear hi)))
        go_ret
        exact ⟨by first | rfl | (simp [errW_none, errW_some, i64_w]; done) | (simp [errW_none, errW_some] <;> rfl) | (simp [*, errW_none, errW_some] <;> rfl), by repeat (first | (with_reducible first | exact HB.out | apply below_alloc | apply pw_below_drewN | apply below_drew1) | exact HB.out)⟩
end Go.Proofs.YtfnhjoemmiepiaaDoor.Q
namespace Go.Proofs.YtfnhjoemmiepiaaDoor.Ext
end Go.Proofs.YtfnhjoemmiepiaaDoor.Ext
namespace Go.Proofs.YtfnhjoemmiepiaaDoor.Q
open Go.Proofs.YtfnhjoemmiepiaaDoor.Ext
open Go.RowKit Go.Proofs.YtfnhjoemmiepiaaDoorW.PrintWords Go.Proofs.YtfnhjoemmiepiaaDoorW.PrintLast Go.Proofs.YtfnhjoemmiepiaaDoorW.PrintMore
attribute [local go_sem] max2_int min2_int max_two min_two max_three min_three max_four min_four
set_option linter.unusedVariables false
set_option linter.unusedSimpArgs false
def impl_ValidText.f (k : Nat) (a0 : ByteArray) : Option (Bool) := if (a0.size : Int) ≤ 60 then ((impl_isSpaced.f k a0).bind fun t151 => (if t151 = true then ((strings_Trim.f a0 (⟨#[32]⟩ : ByteArray)).bind fun t152 => (some (t152.toList == a0.toList))) else (some false))) else (some false)
theorem impl_ValidText.mono : ∀ a0 k, LeO (impl_ValidText.f k a0) (impl_ValidText.f (k + 1) a0) := by
  intro a0 k
  unfold impl_ValidText.f
  repeat' first
      | (with_reducible exact impl_isSpaced.mono _ _)
      | (with_reducible exact LeO.refl _)
      | (with_reducible exact LeO.none _)
      | (with_reducible refine LeO.ite ?_ ?_)
      | (with_reducible refine LeO.bind ?_ (fun _ => ?_))
      | exact impl_isSpaced.mono _ _
      | exact LeO.none _
      | refine LeO.ite ?_ ?_
      | refine LeO.bind ?_ (fun _ => ?_)
set_option maxHeartbeats 8000000 in
set_option maxRecDepth 100000 in
theorem impl_ValidText.calls (k : Nat) (a0 : ByteArray) (r : Bool) (w : World) (hG : GlobM w) (h : impl_ValidText.f k a0 = some r) :
    Calls Tryd.prog 33 #[.string a0] w fun e w' => e = .returned (.bool r) ∧ Below w.heap.size w w' := by
  have HG := Aside0.mk hG
  clear hG
  have HB := Aside0.mk (Below.refl w.heap.size w)
  have H : (if (a0.size : Int) ≤ 60 then ((impl_isSpaced.f k a0).bind fun t151 => (if t151 = true then ((strings_Trim.f a0 (⟨#[32]⟩ : ByteArray)).bind fun t152 => (some (t152.toList == a0.toList))) else (some false))) else (some false)) = some r := h
  clear h
  by_cases c2 : (a0.size : Int) ≤ 60
  · rw [if_pos c2] at H
    have c2b0 : decide ((a0.size : Int) ≤ 60) = true := decide_eq_true c2
    have c2b1 : decide (a0.size ≤ 60) = true := decide_eq_true (by omega)
    clear c2
    replace H := Option.bind_eq_some_iff.mp H
    obtain ⟨t151, A30, H⟩ := H
    replace H : (if t151 = true then ((strings_Trim.f a0 (⟨#[32]⟩ : ByteArray)).bind fun t152 => (some (t152.toList == a0.toList))) else (some false)) = some r := H
    have A3 := Aside0.mk A30
    clear A30
    by_cases c4 : t151 = true
    · subst c4
      have H1 : ((strings_Trim.f a0 (⟨#[32]⟩ : ByteArray)).bind fun t152 => (some (t152.toList == a0.toList))) = some r := by rw [if_pos rfl] at H; exact H
      clear H
      have H := H1
      clear H1
      replace H := Option.bind_eq_some_iff.mp H
      obtain ⟨t152, A50, H⟩ := H
      replace H : (some (t152.toList == a0.toList)) = some r := H
      have A5 := Aside0.mk A50
      clear A50
      obtain rfl := Option.some.inj H
      go_enter Tryd.func33, Tryd.ntmps33
      go_wp2_with (first | (go_at_call 52; (with_reducible refine (impl_isSpaced.calls k a0 true _ ?sideG A3.out).mono ?_); (case sideG => first | exact HG.out.below (by repeat (first | (with_reducible first | exact HB.out | apply below_alloc | apply pw_below_drewN | apply below_drew1) | exact HB.out)) | exact (HG.out.below (by repeat (first | (with_reducible first | exact HB.out | apply below_alloc | apply pw_below_drewN | apply below_drew1) | exact HB.out))).toM); rintro e w6 ⟨rfl, hb⟩; have n0_ := Aside0.mk (below_step (by repeat (first | (with_reducible first | exact HB.out | apply below_alloc | apply pw_below_drewN | apply below_drew1) | exact HB.out)) hb); clear HB; have HB := n0_; clear n0_; (try clear hb); (try clear hb2); (try clear hk); (try clear hi)) | (go_at_call 53; (with_reducible refine (strings_Trim.calls a0 (⟨#[32]⟩ : ByteArray) t152 _ A5.out).mono ?_); rintro e w7 ⟨rfl, hb⟩; have n0_ := Aside0.mk (below_step (by repeat (first | (with_reducible first | exact HB.out | apply below_alloc | apply pw_below_drewN | apply below_drew1) | exact HB.out)) hb); clear HB; have HB := n0_; clear n0_; (try clear hb); (try clear hb2); (try clear hk); (try clear hi)))
      go_ret
      exact ⟨by first | rfl | (simp [errW_none, errW_some, i64_w]; done) | (simp [errW_none, errW_some] <;> rfl) | (simp [*, errW_none, errW_some] <;> rfl), by repeat (first | (with_reducible first | exact HB.out | apply below_alloc | apply pw_below_drewN | apply below_drew1) | exact HB.out)⟩
    · replace c4 := Bool.eq_false_iff.mpr c4
      subst c4
      have H1 : (some false) = some r := by rw [if_neg (show ¬ (false = true) by decide)] at H; exact H
      clear H
      have H := H1
      clear H1
      obtain rfl := Option.some.inj H
      go_enter Tryd.func33, Tryd.ntmps33
      go_wp2_with (first | (go_at_call 52; (with_reducible refine (impl_isSpaced.calls k a0 false _ ?sideG A3.out).mono ?_); (case sideG => first | exact HG.out.below (by repeat (first | (with_reducible first | exact HB.out | apply below_alloc | apply pw_below_drewN | apply below_drew1) | exact HB.out)) | exact (HG.out.below (by repeat (first | (with_reducible first | exact HB.out | apply below_alloc | apply pw_below_drewN | apply below_drew1) | exact HB.out))).toM); rintro e w8 ⟨rfl, hb⟩; have n0_ := Aside0.mk (below_step (by repeat (first | (with_reducible first | exact HB.out | apply below_alloc | apply pw_below_drewN | apply below_drew1) | exact HB.out)) hb); clear HB; have HB := n0_; clear n0_; (try clear hb); (try clear hb2); (try clear hk); (try clear hi)))
      go_ret
      exact ⟨by first | rfl | (simp [errW_none, errW_some, i64_w]; done) | (simp [errW_none, errW_some] <;> rfl) | (simp [*, errW_none, errW_some] <;> rfl), by repeat (first | (with_reducible first | exact HB.out | apply below_alloc | apply pw_below_drewN | apply below_drew1) | exact HB.out)⟩
  · rw [if_neg c2] at H
    have c2b0 : decide ((a0.size : Int) ≤ 60) = false := decide_eq_false c2
    have c2b1 : decide (a0.size ≤ 60) = false := decide_eq_false (by omega)
    clear c2
    obtain rfl := Option.some.inj H
    go_enter Tryd.func33, Tryd.ntmps33
    go_wp2
    go_ret
    exact ⟨by first | rfl | (simp [errW_none, errW_some, i64_w]; done) | (simp [errW_none, errW_some] <;> rfl) | (simp [*, errW_none, errW_some] <;> rfl), by repeat (first | (with_reducible first | exact HB.out | apply below_alloc | apply pw_below_drewN | apply below_drew1) | exact HB.out)⟩
def impl_unless.f (a0 : Bool) (a1 : Int) : Option (Int) := if a0 = true then (some 0) else (some a1)
set_option maxHeartbeats 8000000 in
set_option maxRecDepth 100000 in
theorem impl_unless.calls (a0 : Bool) (a1 : Int) (r : Int) (w : World) (h : impl_unless.f a0 a1 = some r) :
    Calls Tryd.prog 44 #[.bool a0, .int .i64 a1] w fun e w' => e = .returned (.int .i64 r) ∧ Drawn0 w w' := by
  have H : (if a0 = true then (some 0) else (some a1)) = some r := h
  clear h
  by_cases c3 : a0 = true
  · subst c3
    have H1 : (some 0) = some r := by rw [if_pos rfl] at H; exact H
    clear H
    have H := H1
    clear H1
    obtain rfl := Option.some.inj H
    go_enter Tryd.func44, Tryd.ntmps44
    go_wp2
    go_ret
    exact ⟨by first | rfl | (simp; done) | (simp [*]; done), by repeat (first | exact Drawn0.refl _ | apply Drawn0.step)⟩
  · replace c3 := Bool.eq_false_iff.mpr c3
    subst c3
    have H1 : (some a1) = some r := by rw [if_neg (show ¬ (false = true) by decide)] at H; exact H
    clear H
    have H := H1
    clear H1
    obtain rfl := Option.some.inj H
    go_enter Tryd.func44, Tryd.ntmps44
    go_wp2
    go_ret
    exact ⟨by first | rfl | (simp; done) | (simp [*]; done), by repeat (first | exact Drawn0.refl _ | apply Drawn0.step)⟩
end Go.Proofs.YtfnhjoemmiepiaaDoor.Q
namespace Go.Proofs.YtfnhjoemmiepiaaDoor.Pure
open Go.RowKit Go.Proofs.YtfnhjoemmiepiaaDoor.Ext Go.Proofs.YtfnhjoemmiepiaaDoor.Q Go.Proofs.YtfnhjoemmiepiaaDoorW.PrintWords Go.Proofs.YtfnhjoemmiepiaaDoorW.PrintLast Go.Proofs.YtfnhjoemmiepiaaDoorW.PrintMore
set_option linter.unusedVariables false
set_option linter.unusedSimpArgs false
end Go.Proofs.YtfnhjoemmiepiaaDoor.Pure
namespace Go.Proofs.YtfnhjoemmiepiaaDoor.Txt
open Go
set_option linter.unusedVariables false
set_option linter.unusedSimpArgs false
def okB (b : UInt8) : Bool := (decide (65 ≤ b.toNat) && decide (b.toNat ≤ 90)) || b == 32
def noTwo : List UInt8 → Bool
  | a :: b :: l => !(a == 32 && b == 32) && noTwo (b :: l)
  | _ => true
def txt (l : List UInt8) : Bool := decide (l.length ≤ 60) && (l.all okB && noTwo l) && (l.head? != some 32 && l.getLast? != some 32)
theorem contains_two : ∀ l : List UInt8, Lib.contains l [32, 32] = !(noTwo l)
  | [] => rfl
  | [a] => by simp [Lib.contains, Lib.index, noTwo, List.isPrefixOf]
  | a :: b :: l => by
    have ih := contains_two (b :: l)
    unfold Lib.contains at ih ⊢
    rw [Lib.index]
    by_cases h : (a == 32 && b == 32) = true
    · have h' := h
      simp only [Bool.and_eq_true, beq_iff_eq] at h'
      obtain ⟨rfl, rfl⟩ := h'
      simp [noTwo, List.isPrefixOf]
    · have hp : ([32, 32] : List UInt8).isPrefixOf (a :: b :: l) = false := by
        rw [Bool.eq_false_iff]
        intro hp
        apply h
        simp [List.isPrefixOf] at hp
        simp [← hp.1, ← hp.2]
      have h0 : (a == 32 && b == 32) = false := by simpa using h
      rw [hp]
      have hge := Lib.index_ge (b :: l) [32, 32]
      simp only [Bool.false_eq_true, if_false, noTwo, h0, Bool.not_false, Bool.true_and]
      rw [← ih]
      by_cases hm : Lib.index (b :: l) [32, 32] = -1
      · rw [hm]; rfl
      · have : ¬ (Lib.index (b :: l) [32, 32] == -1) = true := by rw [beq_iff_eq]; exact hm
        rw [if_neg this]
        have h1 : 0 ≤ Lib.index (b :: l) [32, 32] := by omega
        simp [h1]; omega
theorem trim_eq_iff (l : List UInt8) : Lib.trimB l 32 = l ↔ l.head? ≠ some 32 ∧ l.getLast? ≠ some 32 := by
  have hle : ∀ (p : UInt8 → Bool) (m : List UInt8), (m.dropWhile p).length ≤ m.length := fun p m => (List.dropWhile_sublist p).length_le
  constructor
  · intro h
    have hl : (Lib.trimB l 32).length = l.length := by rw [h]
    unfold Lib.trimB Lib.trimLeftB Lib.trimRightB at hl
    have h1 := hle (· == 32) (l.reverse.dropWhile (· == 32)).reverse
    have h2 := hle (· == 32) l.reverse
    simp only [List.length_reverse] at h1 h2
    constructor
    · intro hh
      cases l with
      | nil => cases hh
      | cons x t =>
        obtain rfl : x = 32 := by simpa using hh
        have e1 : (32 :: t).reverse.dropWhile (· == 32) = (32 :: t).reverse := by
          apply (List.dropWhile_sublist _).eq_of_length
          simp only [List.length_reverse]; omega
        rw [e1, List.reverse_reverse] at hl
        have := hle (· == 32) t
        simp only [List.dropWhile_cons, BEq.rfl, if_true, List.length_cons] at hl
        omega
    · intro hh
      have hr : l.reverse.head? = some 32 := by rw [List.head?_reverse]; exact hh
      cases hq : l.reverse with
      | nil => rw [hq] at hr; cases hr
      | cons x t =>
        rw [hq] at hr
        obtain rfl : x = 32 := by simpa using hr
        have hlen : l.length = t.length + 1 := by have := congrArg List.length hq; simpa using this
        have := hle (· == 32) t
        have e1 : (l.reverse.dropWhile (· == 32)).length ≤ t.length := by rw [hq]; simpa using this
        omega
  · rintro ⟨h1, h2⟩
    unfold Lib.trimB Lib.trimLeftB Lib.trimRightB
    have e1 : l.reverse.dropWhile (· == 32) = l.reverse := by
      cases hq : l.reverse with
      | nil => rfl
      | cons x t =>
        have : l.getLast? = some x := by rw [← List.head?_reverse, hq]; rfl
        have hx : x ≠ 32 := by rintro rfl; exact h2 this
        simp [List.dropWhile_cons, hx]
    rw [e1, List.reverse_reverse]
    cases l with
    | nil => rfl
    | cons x t =>
      have hx : x ≠ 32 := by rintro rfl; exact h1 rfl
      simp [List.dropWhile_cons, hx]
end Go.Proofs.YtfnhjoemmiepiaaDoor.Txt
namespace Go.Proofs.YtfnhjoemmiepiaaDoor.Ext
end Go.Proofs.YtfnhjoemmiepiaaDoor.Ext
namespace Go.Proofs.YtfnhjoemmiepiaaDoor.Q
open Go.Proofs.YtfnhjoemmiepiaaDoor.Ext
open Go.RowKit Go.Proofs.YtfnhjoemmiepiaaDoorW.PrintWords Go.Proofs.YtfnhjoemmiepiaaDoorW.PrintLast Go.Proofs.YtfnhjoemmiepiaaDoorW.PrintMore
attribute [local go_sem] max2_int min2_int max_two min_two max_three min_three max_four min_four
set_option linter.unusedVariables false
set_option linter.unusedSimpArgs false
def spec_l01Text.l0 : Nat → ByteArray → Int → Option (Bool)
  | 0, _, _ => none
  | k + 1, x0, x3 => if x3 < (x0.size : Int) then (if 0 ≤ x3 then (if (bt x0 x3) = 32 then (if x3 = 0 then (some false) else (if x3 = (wrap64 ((x0.size : Int) - 1)) then (some false) else (if 0 ≤ (wrap64 (x3 - 1)) then (if (wrap64 (x3 - 1)) < (x0.size : Int) then (if (bt x0 (wrap64 (x3 - 1))) = 32 then (some false) else (spec_l01Text.l0 k x0 (wrap64 (x3 + 1)))) else (none)) else (none)))) else ((spec_l01Letter.f (bt x0 x3)).bind fun t104 => (if t104 = true then (spec_l01Text.l0 k x0 (wrap64 (x3 + 1))) else (some false)))) else (none)) else (some (decide ((x0.size : Int) ≤ 60)))
def spec_l01Text.f (k : Nat) (a0 : ByteArray) : Option (Bool) := spec_l01Text.l0 k a0 0
theorem spec_l01Text.mono_l : ∀ k, (∀ y0 y1, LeO (spec_l01Text.l0 k y0 y1) (spec_l01Text.l0 (k + 1) y0 y1))
  | 0 => fun _ _ r h => by simp [spec_l01Text.l0] at h
  | k + 1 => by
    have ih0 := spec_l01Text.mono_l k
    · intro y0 y1
      unfold spec_l01Text.l0
      repeat' first
      | (with_reducible exact ih0 _ _)
      | (with_reducible exact LeO.refl _)
      | (with_reducible exact LeO.none _)
      | (with_reducible refine LeO.ite ?_ ?_)
      | (with_reducible refine LeO.bind ?_ (fun _ => ?_))
      | exact ih0 _ _
      | exact LeO.none _
      | refine LeO.ite ?_ ?_
      | refine LeO.bind ?_ (fun _ => ?_)
theorem spec_l01Text.mono : ∀ a0 k, LeO (spec_l01Text.f k a0) (spec_l01Text.f (k + 1) a0) := by
  intro a0 k
  have ih0 := spec_l01Text.mono_l k
  unfold spec_l01Text.f
  repeat' first
      | (with_reducible exact ih0 _ _)
      | (with_reducible exact LeO.refl _)
      | (with_reducible exact LeO.none _)
      | (with_reducible refine LeO.ite ?_ ?_)
      | (with_reducible refine LeO.bind ?_ (fun _ => ?_))
      | exact ih0 _ _
      | exact LeO.none _
      | refine LeO.ite ?_ ?_
      | refine LeO.bind ?_ (fun _ => ?_)
set_option maxHeartbeats 8000000 in
set_option maxRecDepth 100000 in
theorem spec_l01Text.calls (k : Nat) (a0 : ByteArray) (r : Bool) (w : World) (h : spec_l01Text.f k a0 = some r) :
    Calls Tryd.prog 30 #[.string a0] w fun e w' => e = .returned (.bool r) ∧ Drawn0 w w' := by
  have H : (spec_l01Text.l0 k a0 0) = some r := h
  clear h
  have H' := Aside0.mk H
  clear H
  go_enter Tryd.func30, Tryd.ntmps30
  go_wp2
  go_loopg [3] k (fun kq v3 w' => ∃ (x3_1 : Int), v3 = .int .i64 x3_1 ∧ Aside0 (spec_l01Text.l0 kq a0 x3_1 = some r) ∧ Aside0 (kq ≤ k) ∧ Drawn0 w w')
  case atStart => exact ⟨(0), (by first | rfl | (simp; done) | (simp [*]; done)), H', ⟨Nat.le_refl _⟩, by repeat (first | exact Drawn0.refl _ | apply Drawn0.step)⟩
  case round =>
    clear H'
    obtain ⟨x3_1, rfl, HA, HK1, ⟨m1, rfl⟩⟩ := hrel
    cases gk with
    | zero => exact absurd HA.out (by simp [spec_l01Text.l0])
    | succ k1 =>
      have H := HA.out
      clear HA
      simp only [spec_l01Text.l0] at H
      by_cases c2 : x3_1 < (a0.size : Int)
      · rw [if_pos c2] at H
        have c2b0 : decide (x3_1 < (a0.size : Int)) = true := decide_eq_true c2
        clear c2
        by_cases c3 : 0 ≤ x3_1
        · rw [if_pos c3] at H
          have c3b0 : decide (0 ≤ x3_1) = true := decide_eq_true c3
          clear c3
          by_cases c5 : (bt a0 x3_1) = 32
          · rw [if_pos c5] at H
            have c5b0 : ((bt a0 x3_1) == 32) = true := beq_iff_eq.mpr c5
            have c5b1 : ((bt a0 x3_1) != 32) = false := bne_eq_false_iff_eq.mpr c5
            clear c5
            by_cases c6 : x3_1 = 0
            · rw [if_pos c6] at H
              have c6b0 : (x3_1 == 0) = true := beq_iff_eq.mpr c6
              have c6b1 : (x3_1 != 0) = false := bne_eq_false_iff_eq.mpr c6
              clear c6
              obtain rfl := Option.some.inj H
              have p4 : 0 ≤ (x3_1 : Int) := of_decide_eq_true (by first | (with_reducible assumption) | assumption)
              have q4 : x3_1 < (a0.size : Int) := of_decide_eq_true (by first | (with_reducible assumption) | assumption)
              have hx4 := bt_at a0 x3_1
              replace p4 := eq_true p4
              replace q4 := eq_true q4
              go_wp2
              go_ret
              exact ⟨by first | rfl | (simp; done) | (simp [*]; done), by repeat (first | exact Drawn0.refl _ | apply Drawn0.step)⟩
            · rw [if_neg c6] at H
              have c6b0 : (x3_1 == 0) = false := beq_eq_false_iff_ne.mpr c6
              have c6b1 : (x3_1 != 0) = true := bne_iff_ne.mpr c6
              by_cases c7 : x3_1 = (wrap64 ((a0.size : Int) - 1))
              · rw [if_pos c7] at H
                have c7b0 : (x3_1 == (wrap64 ((a0.size : Int) - 1))) = true := beq_iff_eq.mpr c7
                have c7b1 : (x3_1 != (wrap64 ((a0.size : Int) - 1))) = false := bne_eq_false_iff_eq.mpr c7
                clear c7
                obtain rfl := Option.some.inj H
                have p4 : 0 ≤ (x3_1 : Int) := of_decide_eq_true (by first | (with_reducible assumption) | assumption)
                have q4 : x3_1 < (a0.size : Int) := of_decide_eq_true (by first | (with_reducible assumption) | assumption)
                have hx4 := bt_at a0 x3_1
                replace p4 := eq_true p4
                replace q4 := eq_true q4
                go_wp2
                go_ret
                exact ⟨by first | rfl | (simp; done) | (simp [*]; done), by repeat (first | exact Drawn0.refl _ | apply Drawn0.step)⟩
              · rw [if_neg c7] at H
                have c7b0 : (x3_1 == (wrap64 ((a0.size : Int) - 1))) = false := beq_eq_false_iff_ne.mpr c7
                have c7b1 : (x3_1 != (wrap64 ((a0.size : Int) - 1))) = true := bne_iff_ne.mpr c7
                obtain ⟨ji8, hji8⟩ : ∃ j_ : Int, (wrap64 (x3_1 - 1)) = j_ := ⟨_, rfl⟩
                replace H : (if 0 ≤ (ji8) then (if (ji8) < (a0.size : Int) then (if (bt a0 (ji8)) = 32 then (some false) else (spec_l01Text.l0 k1 a0 (wrap64 (x3_1 + 1)))) else (none)) else (none)) = some r := by first | (rw [hji8] at H; exact H) | (simp only [hji8] at H ⊢; exact H)
                have hji8w : (IntKind.i64.wrap (x3_1 - 1)) = ji8 := (i64_w _).trans hji8
                by_cases c9 : 0 ≤ (ji8)
                · rw [if_pos c9] at H
                  have c9b0 : decide (0 ≤ (ji8)) = true := decide_eq_true c9
                  clear c9
                  by_cases c10 : (ji8) < (a0.size : Int)
                  · rw [if_pos c10] at H
                    have c10b0 : decide ((ji8) < (a0.size : Int)) = true := decide_eq_true c10
                    clear c10
                    by_cases c12 : (bt a0 (ji8)) = 32
                    · rw [if_pos c12] at H
                      have c12b0 : ((bt a0 (ji8)) == 32) = true := beq_iff_eq.mpr c12
                      have c12b1 : ((bt a0 (ji8)) != 32) = false := bne_eq_false_iff_eq.mpr c12
                      clear c12
                      obtain rfl := Option.some.inj H
                      have p4 : 0 ≤ (x3_1 : Int) := of_decide_eq_true (by first | (with_reducible assumption) | assumption)
                      have q4 : x3_1 < (a0.size : Int) := of_decide_eq_true (by first | (with_reducible assumption) | assumption)
                      have hx4 := bt_at a0 x3_1
                      replace p4 := eq_true p4
                      replace q4 := eq_true q4
                      have p11 : 0 ≤ ((ji8) : Int) := of_decide_eq_true (by first | (with_reducible assumption) | assumption)
                      have q11 : (ji8) < (a0.size : Int) := of_decide_eq_true (by first | (with_reducible assumption) | assumption)
                      have hx11 := bt_at a0 (ji8)
                      replace p11 := eq_true p11
                      replace q11 := eq_true q11
                      go_wp2
                      go_ret
                      exact ⟨by first | rfl | (simp; done) | (simp only [← hji8] <;> (first | rfl | simp)) | (simp [*]; done), by repeat (first | exact Drawn0.refl _ | apply Drawn0.step)⟩
                    · rw [if_neg c12] at H
                      have c12b0 : ((bt a0 (ji8)) == 32) = false := beq_eq_false_iff_ne.mpr c12
                      have c12b1 : ((bt a0 (ji8)) != 32) = true := bne_iff_ne.mpr c12
                      have H' := Aside0.mk H
                      clear H
                      have p4 : 0 ≤ (x3_1 : Int) := of_decide_eq_true (by first | (with_reducible assumption) | assumption)
                      have q4 : x3_1 < (a0.size : Int) := of_decide_eq_true (by first | (with_reducible assumption) | assumption)
                      have hx4 := bt_at a0 x3_1
                      replace p4 := eq_true p4
                      replace q4 := eq_true q4
                      have p11 : 0 ≤ ((ji8) : Int) := of_decide_eq_true (by first | (with_reducible assumption) | assumption)
                      have q11 : (ji8) < (a0.size : Int) := of_decide_eq_true (by first | (with_reducible assumption) | assumption)
                      have hx11 := bt_at a0 (ji8)
                      replace p11 := eq_true p11
                      replace q11 := eq_true q11
                      go_wp2
                      go_roundg k1
                      case measure => have := HK1.out; omega
                      case rel => exact ⟨(wrap64 (x3_1 + 1)), (by first | rfl | (simp; done) | (simp [*]; done)), H', ⟨by have := HK1.out; omega⟩, by repeat (first | exact Drawn0.refl _ | apply Drawn0.step)⟩
                  · rw [if_neg c10] at H
                    exact absurd H (by simp)
                · rw [if_neg c9] at H
                  exact absurd H (by simp)
          · rw [if_neg c5] at H
            have c5b0 : ((bt a0 x3_1) == 32) = false := beq_eq_false_iff_ne.mpr c5
            have c5b1 : ((bt a0 x3_1) != 32) = true := bne_iff_ne.mpr c5
            replace H := Option.bind_eq_some_iff.mp H
            obtain ⟨t104, A140, H⟩ := H
            replace H : (if t104 = true then (spec_l01Text.l0 k1 a0 (wrap64 (x3_1 + 1))) else (some false)) = some r := H
            have A14 := Aside0.mk A140
            clear A140
            by_cases c15 : t104 = true
            · subst c15
              have H1 : (spec_l01Text.l0 k1 a0 (wrap64 (x3_1 + 1))) = some r := by rw [if_pos rfl] at H; exact H
              clear H
              have H := H1
              clear H1
              have H' := Aside0.mk H
              clear H
              have p4 : 0 ≤ (x3_1 : Int) := of_decide_eq_true (by first | (with_reducible assumption) | assumption)
              have q4 : x3_1 < (a0.size : Int) := of_decide_eq_true (by first | (with_reducible assumption) | assumption)
              have hx4 := bt_at a0 x3_1
              replace p4 := eq_true p4
              replace q4 := eq_true q4
              have p13 : 0 ≤ (x3_1 : Int) := of_decide_eq_true (by first | (with_reducible assumption) | assumption)
              have q13 : x3_1 < (a0.size : Int) := of_decide_eq_true (by first | (with_reducible assumption) | assumption)
              have hx13 := bt_at a0 x3_1
              replace p13 := eq_true p13
              replace q13 := eq_true q13
              go_wp2_with (first | ((with_reducible refine gate_callee (f := 47) rfl ?_); refine goesL_ (some 33) rfl rfl Tryd.func47 (by kernel_rfl) rfl #[.int .u8 (bt a0 x3_1)] rfl (by (try simp only [List.map_toArray, List.map_cons, List.map_nil]); first | done | rfl | (simp only [List.length_drop, List.length_take]; rfl)) ?_; (with_reducible refine (spec_l01Letter.calls (bt a0 x3_1) true _ A14.out).mono ?_); rintro e w' ⟨rfl, ⟨nd, rfl⟩⟩; refine ⟨_, rfl, ?_⟩))
              go_roundg k1
              case measure => have := HK1.out; omega
              case rel => exact ⟨(wrap64 (x3_1 + 1)), (by first | rfl | (simp; done) | (simp [*]; done)), H', ⟨by have := HK1.out; omega⟩, by repeat (first | exact Drawn0.refl _ | apply Drawn0.step)⟩
            · replace c15 := Bool.eq_false_iff.mpr c15
              subst c15
              have H1 : (some false) = some r := by rw [if_neg (show ¬ (false = true) by decide)] at H; exact H
              clear H
              have H := H1
              clear H1
              obtain rfl := Option.some.inj H
              have p4 : 0 ≤ (x3_1 : Int) := of_decide_eq_true (by first | (with_reducible assumption) | assumption)
              have q4 : x3_1 < (a0.size : Int) := of_decide_eq_true (by first | (with_reducible assumption) | assumption)
              have hx4 := bt_at a0 x3_1
              replace p4 := eq_true p4
              replace q4 := eq_true q4
              have p13 : 0 ≤ (x3_1 : Int) := of_decide_eq_true (by first | (with_reducible assumption) | assumption)
              have q13 : x3_1 < (a0.size : Int) := of_decide_eq_true (by first | (with_reducible assumption) | assumption)
              have hx13 := bt_at a0 x3_1
              replace p13 := eq_true p13
              replace q13 := eq_true q13
              go_wp2_with (first | ((with_reducible refine gate_callee (f := 47) rfl ?_); refine goesL_ (some 33) rfl rfl Tryd.func47 (by kernel_rfl) rfl #[.int .u8 (bt a0 x3_1)] rfl (by (try simp only [List.map_toArray, List.map_cons, List.map_nil]); first | done | rfl | (simp only [List.length_drop, List.length_take]; rfl)) ?_; (with_reducible refine (spec_l01Letter.calls (bt a0 x3_1) false _ A14.out).mono ?_); rintro e w' ⟨rfl, ⟨nd, rfl⟩⟩; refine ⟨_, rfl, ?_⟩))
              go_ret
              exact ⟨by first | rfl | (simp; done) | (simp [*]; done), by repeat (first | exact Drawn0.refl _ | apply Drawn0.step)⟩
        · rw [if_neg c3] at H
          exact absurd H (by simp)
      · rw [if_neg c2] at H
        have c2b0 : decide (x3_1 < (a0.size : Int)) = false := decide_eq_false c2
        clear c2
        obtain rfl := Option.some.inj H
        go_wp2
        go_ret
        exact ⟨by first | rfl | (simp; done) | (simp [*]; done), by repeat (first | exact Drawn0.refl _ | apply Drawn0.step)⟩
end Go.Proofs.YtfnhjoemmiepiaaDoor.Q
namespace Go.Proofs.YtfnhjoemmiepiaaDoor.Ext
end Go.Proofs.YtfnhjoemmiepiaaDoor.Ext
namespace Go.Proofs.YtfnhjoemmiepiaaDoor.Q
open Go.Proofs.YtfnhjoemmiepiaaDoor.Ext
open Go.RowKit Go.Proofs.YtfnhjoemmiepiaaDoorW.PrintWords Go.Proofs.YtfnhjoemmiepiaaDoorW.PrintLast Go.Proofs.YtfnhjoemmiepiaaDoorW.PrintMore
attribute [local go_sem] max2_int min2_int max_two min_two max_three min_three max_four min_four
set_option linter.unusedVariables false
set_option linter.unusedSimpArgs false
def impl_lettersOf.f (a0 : ByteArray) : Option (ByteArray) := (strings_ReplaceAll.f a0 (⟨#[32]⟩ : ByteArray) (⟨#[]⟩ : ByteArray)).bind fun t156 => (some t156)
set_option maxHeartbeats 8000000 in
set_option maxRecDepth 100000 in
theorem impl_lettersOf.calls (a0 : ByteArray) (r : ByteArray) (w : World) (hG : GlobM w) (h : impl_lettersOf.f a0 = some r) :
    Calls Tryd.prog 45 #[.string a0] w fun e w' => e = .returned (.string r) ∧ Below w.heap.size w w' := by
  have HG := Aside0.mk hG
  clear hG
  have HB := Aside0.mk (Below.refl w.heap.size w)
  have H : ((strings_ReplaceAll.f a0 (⟨#[32]⟩ : ByteArray) (⟨#[]⟩ : ByteArray)).bind fun t156 => (some t156)) = some r := h
  clear h
  replace H := Option.bind_eq_some_iff.mp H
  obtain ⟨t156, A20, H⟩ := H
  replace H : (some t156) = some r := H
  have A2 := Aside0.mk A20
  clear A20
  obtain rfl := Option.some.inj H
  go_enter Tryd.func45, Tryd.ntmps45
  go_wp2_with (first | ((with_reducible refine gate_callee (f := 59) rfl ?_); refine goesL_ (some 4) rfl rfl Tryd.func59 (by kernel_rfl) rfl #[.string a0, .string (⟨#[32]⟩ : ByteArray), .string (⟨#[]⟩ : ByteArray)] rfl (by (try simp only [List.map_toArray, List.map_cons, List.map_nil]); first | done | rfl | (simp only [List.length_drop, List.length_take]; rfl)) ?_; (with_reducible refine (strings_ReplaceAll.calls a0 (⟨#[32]⟩ : ByteArray) (⟨#[]⟩ : ByteArray) t156 _ ?sideG A2.out).mono ?_); (case sideG => first | exact HG.out.below (by repeat (first | (with_reducible first | exact HB.out | apply below_alloc | apply pw_below_drewN | apply below_drew1) | exact HB.out)) | exact (HG.out.below (by repeat (first | (with_reducible first | exact HB.out | apply below_alloc | apply pw_below_drewN | apply below_drew1) | exact HB.out))).toM); rintro e w3 ⟨rfl, hb⟩; refine ⟨_, rfl, ?_⟩; have n0_ := Aside0.mk (below_step (by repeat (first | (with_reducible first | exact HB.out | apply below_alloc | apply pw_below_drewN | apply below_drew1) | exact HB.out)) hb); clear HB; have HB := n0_; clear n0_; (try clear hb); (try clear hb2); (try clear hk); (try clear hi)))
  go_ret
  exact ⟨by first | rfl | (simp [errW_none, errW_some, i64_w]; done) | (simp [errW_none, errW_some] <;> rfl) | (simp [*, errW_none, errW_some] <;> rfl), by repeat (first | (with_reducible first | exact HB.out | apply below_alloc | apply pw_below_drewN | apply below_drew1) | exact HB.out)⟩
end Go.Proofs.YtfnhjoemmiepiaaDoor.Q
namespace Go.Proofs.YtfnhjoemmiepiaaDoor.Pure
open Go.RowKit Go.Proofs.YtfnhjoemmiepiaaDoor.Ext Go.Proofs.YtfnhjoemmiepiaaDoor.Q Go.Proofs.YtfnhjoemmiepiaaDoor.Txt Go.Proofs.YtfnhjoemmiepiaaDoorW.PrintWords Go.Proofs.YtfnhjoemmiepiaaDoorW.PrintLast Go.Proofs.YtfnhjoemmiepiaaDoorW.PrintMore
set_option linter.unusedVariables false
set_option linter.unusedSimpArgs false
theorem toList_loop (s : ByteArray) : ∀ (d i : Nat) (r : List UInt8), i + d = s.size → ByteArray.toList.loop s i r = r.reverse ++ s.data.toList.drop i
  | 0, i, r, h => by
    rw [ByteArray.toList.loop, if_neg (by omega), List.drop_eq_nil_of_le (by rw [data_length]; omega), List.append_nil]
  | d + 1, i, r, h => by
    rw [ByteArray.toList.loop, if_pos (by omega), toList_loop s d (i + 1) _ (by omega)]
    have hi : i < s.data.toList.length := by rw [data_length]; omega
    have hi' : i < s.data.size := by simpa using hi
    have e : s.get! i = s.data.toList[i] := by
      show s.data[i]! = _
      rw [getElem!_pos s.data i hi', Array.getElem_toList]
    rw [List.reverse_cons, List.append_assoc, List.drop_eq_getElem_cons hi, e]
    rfl
theorem toList_data (s : ByteArray) : s.toList = s.data.toList := by
  have := toList_loop s s.size 0 [] (by omega)
  simpa [ByteArray.toList] using this
theorem bt_get (s : ByteArray) (i : Nat) (h : i < s.data.toList.length) : bt s (i : Int) = ((s.data.toList.getD i 0).toNat : Int) := by
  have h' : i < s.size := by rw [← data_length]; exact h
  unfold bt
  rw [Int.toNat_natCast, dif_pos h']
  congr 2
  have := Lib.data_getElem? s i h'
  rw [List.getD_eq_getElem?_getD, this]
  rfl
theorem u8_eq (b : UInt8) (n : Nat) (hn : n < 256) : ((b.toNat : Int) = n) ↔ b = UInt8.ofNat n := by
  constructor
  · intro h
    apply UInt8.toNat_inj.1
    rw [UInt8.toNat_ofNat']; omega
  · rintro rfl
    rw [UInt8.toNat_ofNat']; omega
theorem is32 (b : UInt8) : ((b.toNat : Int) = 32) ↔ b = 32 := u8_eq b 32 (by omega)
def okAt (l : List UInt8) (i : Nat) : Bool :=
  if l.getD i 0 = 32 then !(i == 0 || (i + 1 == l.length || l.getD (i - 1) 0 == 32)) else decide (65 ≤ (l.getD i 0).toNat) && decide ((l.getD i 0).toNat ≤ 90)
theorem range_succ (i d : Nat) : List.range' i (d + 1) = i :: List.range' (i + 1) d := by rw [List.range'_succ]
theorem letter_eq (s : ByteArray) (i : Nat) (h : i < s.data.toList.length) : spec_l01Letter.f (bt s i) = some (decide (65 ≤ (s.data.toList.getD i 0).toNat) && decide ((s.data.toList.getD i 0).toNat ≤ 90)) := by
  unfold spec_l01Letter.f
  rw [bt_get s i h]
  by_cases h1 : 65 ≤ (s.data.toList.getD i 0).toNat
  · rw [if_pos (by omega)]; simp only [h1, decide_true, Bool.true_and]; congr 1; rw [Bool.eq_iff_iff]; simp; omega
  · rw [if_neg (by omega)]; simp only [h1, decide_false, Bool.false_and]
theorem isLetter_eq (s : ByteArray) (i : Nat) (h : i < s.data.toList.length) : impl_isLetter.f (bt s i) = some (decide (65 ≤ (s.data.toList.getD i 0).toNat) && decide ((s.data.toList.getD i 0).toNat ≤ 90)) := by
  unfold impl_isLetter.f
  rw [bt_get s i h]
  by_cases h1 : 65 ≤ (s.data.toList.getD i 0).toNat
  · rw [if_pos (by omega)]; simp only [h1, decide_true, Bool.true_and]; congr 1; rw [Bool.eq_iff_iff]; simp; omega
  · rw [if_neg (by omega)]; simp only [h1, decide_false, Bool.false_and]
theorem text_l0 (s : ByteArray) (hs : s.size ≤ 4611686018427387904) : ∀ (d k i : Nat), i + d = s.size → d < k →
    spec_l01Text.l0 k s i = some ((List.range' i d).all (okAt s.data.toList) && decide (s.size ≤ 60))
  | 0, k, i, hd, hk => by
    obtain ⟨k, rfl⟩ := some_k hk
    simp only [spec_l01Text.l0]
    rw [if_neg (by omega)]
    simp only [List.range'_zero, List.all_nil, Bool.true_and]
    congr 1
    rw [Bool.eq_iff_iff]; simp; omega
  | d + 1, k, i, hd, hk => by
    obtain ⟨k, rfl⟩ := some_k hk
    have hlen : s.data.toList.length = s.size := data_length s
    have ih := text_l0 s hs d k (i + 1) (by omega) (by omega)
    simp only [spec_l01Text.l0]
    rw [if_pos (by omega), if_pos (by omega), wrap_succ i (by omega), ih, letter_eq s i (by omega), bt_get s i (by omega)]
    rw [range_succ, List.all_cons]
    by_cases h1 : s.data.toList.getD i 0 = 32
    · rw [if_pos ((is32 _).2 h1)]
      by_cases h2 : i = 0
      · rw [if_pos (by omega)]
        subst h2
        have e : okAt s.data.toList 0 = false := by unfold okAt; rw [if_pos h1]; simp
        rw [e]; simp
      · rw [if_neg (by omega), w64 (x := (s.size : Int) - 1) (by omega) (by omega)]
        by_cases h3 : i + 1 = s.size
        · rw [if_pos (by omega)]
          have h3' : i + 1 = s.data.toList.length := by omega
          have e : okAt s.data.toList i = false := by
            unfold okAt
            rw [if_pos h1, show (i + 1 == s.data.toList.length) = true from by rw [beq_iff_eq]; exact h3']
            simp
          rw [e]; simp
        · rw [if_neg (by omega), w64 (x := (i : Int) - 1) (by omega) (by omega), if_pos (by omega), if_pos (by omega)]
          rw [show (i : Int) - 1 = ((i - 1 : Nat) : Int) by omega, bt_get s (i - 1) (by omega)]
          by_cases h4 : s.data.toList.getD (i - 1) 0 = 32
          · rw [if_pos ((is32 _).2 h4)]
            have e : okAt s.data.toList i = false := by unfold okAt; rw [if_pos h1, h4]; simp
            rw [e]; simp
          · rw [if_neg (fun h => h4 ((is32 _).1 h))]
            have e : okAt s.data.toList i = true := by
              unfold okAt
              rw [if_pos h1]
              have h4' : (s.data.toList.getD (i - 1) 0 == 32) = false := by rw [beq_eq_false_iff_ne]; exact h4
              have h3' : (i + 1 == s.data.toList.length) = false := by rw [beq_eq_false_iff_ne]; omega
              have h2' : (i == 0) = false := by rw [beq_eq_false_iff_ne]; omega
              rw [h4', h3', h2']; rfl
            rw [e]; simp
    · rw [if_neg (fun h => h1 ((is32 _).1 h))]
      have e : okAt s.data.toList i = (decide (65 ≤ (s.data.toList.getD i 0).toNat) && decide ((s.data.toList.getD i 0).toNat ≤ 90)) := by unfold okAt; rw [if_neg h1]
      rw [e, Option.bind_some]
      cases (decide (65 ≤ (s.data.toList.getD i 0).toNat) && decide ((s.data.toList.getD i 0).toNat ≤ 90)) <;> simp
theorem spaced_l0 (s : ByteArray) (hs : s.size ≤ 4294967280) : ∀ (d k i : Nat), i + d = s.size → d < k →
    impl_isSpaced.l0 k s (s.size : Int) i = some ((List.range' i d).all (fun j => okB (s.data.toList.getD j 0)) && !(Lib.contains s.data.toList [32, 32]))
  | 0, k, i, hd, hk => by
    obtain ⟨k, rfl⟩ := some_k hk
    simp only [impl_isSpaced.l0]
    rw [if_neg (by omega)]
    unfold strings_Contains.f
    rw [if_pos (by omega)]
    simp
  | d + 1, k, i, hd, hk => by
    obtain ⟨k, rfl⟩ := some_k hk
    have hlen : s.data.toList.length = s.size := data_length s
    have ih := spaced_l0 s hs d k (i + 1) (by omega) (by omega)
    simp only [impl_isSpaced.l0]
    rw [if_pos (by omega), if_pos (by omega), if_pos (by omega), wrap_succ i (by omega), ih, isLetter_eq s i (by omega), bt_get s i (by omega), Option.bind_some, range_succ, List.all_cons]
    have e : okB (s.data.toList.getD i 0) = ((decide (65 ≤ (s.data.toList.getD i 0).toNat) && decide ((s.data.toList.getD i 0).toNat ≤ 90)) || s.data.toList.getD i 0 == 32) := rfl
    rw [e]
    cases hc : (decide (65 ≤ (s.data.toList.getD i 0).toNat) && decide ((s.data.toList.getD i 0).toNat ≤ 90))
    · simp only [Bool.false_eq_true, if_false, Bool.false_or]
      by_cases h1 : s.data.toList.getD i 0 = 32
      · rw [if_pos ((is32 _).2 h1), h1]; simp
      · rw [if_neg (fun h => h1 ((is32 _).1 h))]
        have : (s.data.toList.getD i 0 == 32) = false := by rw [beq_eq_false_iff_ne]; exact h1
        rw [this]; simp
    · simp
theorem range_all (l : List UInt8) (p : UInt8 → Bool) : (List.range' 0 l.length).all (fun j => p (l.getD j 0)) = l.all p := by
  rw [Bool.eq_iff_iff, List.all_eq_true, List.all_eq_true]
  constructor
  · intro h x hx
    obtain ⟨i, hi, rfl⟩ := List.mem_iff_getElem.1 hx
    have := h i (by simp [List.mem_range']; omega)
    simpa [List.getD_eq_getElem?_getD, hi] using this
  · intro h i hi
    have hi' : i < l.length := by simpa [List.mem_range'] using hi
    have := h _ (List.getElem_mem hi')
    simpa [List.getD_eq_getElem?_getD, hi'] using this
theorem noTwo_iff : ∀ l : List UInt8, noTwo l = true ↔ ∀ i, i + 1 < l.length → ¬ (l.getD i 0 = 32 ∧ l.getD (i + 1) 0 = 32)
  | [] => by simp [noTwo]
  | [a] => by simp [noTwo]
  | a :: b :: l => by
    have ih := noTwo_iff (b :: l)
    simp only [noTwo, Bool.and_eq_true, Bool.not_eq_true', Bool.and_eq_false_iff, beq_eq_false_iff_ne]
    rw [ih]
    constructor
    · rintro ⟨h1, h2⟩ i hi
      cases i with
      | zero => simp; intro ha; rcases h1 with h | h; exact absurd ha h; exact h
      | succ i =>
        have := h2 i (by simp at hi ⊢; omega)
        simpa using this
    · intro h
      refine ⟨?_, fun i hi => ?_⟩
      · have := h 0 (by simp)
        simp at this
        by_cases ha : a = 32
        · exact .inr (this ha)
        · exact .inl ha
      · have := h (i + 1) (by simp at hi ⊢; omega)
        simpa using this
theorem head_iff (l : List UInt8) : (l.head? != some 32) = true ↔ ¬ (0 < l.length ∧ l.getD 0 0 = 32) := by
  cases l with
  | nil => simp
  | cons a t => simp
theorem last_iff (l : List UInt8) : (l.getLast? != some 32) = true ↔ ¬ (0 < l.length ∧ l.getD (l.length - 1) 0 = 32) := by
  rw [List.getLast?_eq_getElem?]
  by_cases h : 0 < l.length
  · have hi : l.length - 1 < l.length := by omega
    rw [List.getD_eq_getElem?_getD, List.getElem?_eq_getElem hi]
    simp [h]
  · have : l = [] := List.length_eq_zero_iff.1 (by omega)
    subst this; simp
theorem okAt_iff (l : List UInt8) : (List.range' 0 l.length).all (okAt l) = ((l.all okB && noTwo l) && (l.head? != some 32 && l.getLast? != some 32)) := by
  rw [Bool.eq_iff_iff]
  simp only [Bool.and_eq_true]
  rw [noTwo_iff, head_iff, last_iff, ← range_all l okB]
  simp only [List.all_eq_true, List.mem_range', Nat.zero_add, Nat.one_mul]
  have hok : ∀ i, okB (l.getD i 0) = true ↔ (l.getD i 0 = 32 ∨ (65 ≤ (l.getD i 0).toNat ∧ (l.getD i 0).toNat ≤ 90)) := by
    intro i
    simp only [okB, Bool.or_eq_true, Bool.and_eq_true, decide_eq_true_eq, beq_iff_eq]
    constructor
    · rintro (h | h)
      · exact .inr h
      · exact .inl h
    · rintro (h | h)
      · exact .inr h
      · exact .inl h
  have hat : ∀ i, okAt l i = true ↔ ((l.getD i 0 = 32 ∧ i ≠ 0 ∧ i + 1 ≠ l.length ∧ l.getD (i - 1) 0 ≠ 32) ∨ (l.getD i 0 ≠ 32 ∧ 65 ≤ (l.getD i 0).toNat ∧ (l.getD i 0).toNat ≤ 90)) := by
    intro i
    unfold okAt
    by_cases h : l.getD i 0 = 32
    · rw [if_pos h]
      simp only [Bool.not_eq_true', Bool.or_eq_false_iff, beq_eq_false_iff_ne, h, true_and, ne_eq, not_true_eq_false, false_and, or_false]
    · rw [if_neg h]
      simp only [Bool.and_eq_true, decide_eq_true_eq, h, false_and, false_or, ne_eq, not_false_eq_true, true_and]
  constructor
  · intro h
    have h' : ∀ i, i < l.length → okAt l i = true := fun i hi => h i ⟨i, hi, rfl⟩
    refine ⟨⟨?_, ?_⟩, ?_, ?_⟩
    · rintro i ⟨_, hj, rfl⟩
      rw [hok]
      rcases (hat i).1 (h' i hj) with h1 | h1
      · exact .inl h1.1
      · exact .inr h1.2
    · rintro i hi ⟨h1, h2⟩
      rcases (hat (i + 1)).1 (h' (i + 1) hi) with h3 | h3
      · exact h3.2.2.2 h1
      · exact h3.1 h2
    · rintro ⟨h1, h2⟩
      rcases (hat 0).1 (h' 0 h1) with h3 | h3
      · exact h3.2.1 rfl
      · exact h3.1 h2
    · rintro ⟨h1, h2⟩
      rcases (hat (l.length - 1)).1 (h' _ (by omega)) with h3 | h3
      · exact h3.2.2.1 (by omega)
      · exact h3.1 h2
  · rintro ⟨⟨h1, h2⟩, h3, h4⟩ i ⟨_, hj, rfl⟩
    rw [hat]
    rcases (hok i).1 (h1 i ⟨i, hj, rfl⟩) with h5 | h5
    · left
      refine ⟨h5, ?_, ?_, ?_⟩
      · rintro rfl; exact h3 ⟨hj, h5⟩
      · intro he
        refine h4 ⟨by omega, ?_⟩
        rw [show l.length - 1 = i by omega]; exact h5
      · intro he
        cases i with
        | zero => exact h3 ⟨hj, h5⟩
        | succ j => exact h2 j hj ⟨he, h5⟩
    · right
      refine ⟨?_, h5⟩
      intro he
      rw [he] at h5
      have : (32 : UInt8).toNat = 32 := rfl
      omega
theorem text_eq (s : ByteArray) (hs : s.size ≤ 4611686018427387904) {k : Nat} (hk : s.size < k) : spec_l01Text.f k s = some (txt s.data.toList) := by
  unfold spec_l01Text.f
  have := text_l0 s hs s.size k 0 (by omega) hk
  rw [show ((0 : Nat) : Int) = 0 from rfl] at this
  rw [this]
  have hlen : s.data.toList.length = s.size := data_length s
  have h2 := okAt_iff s.data.toList
  rw [hlen] at h2
  rw [h2]
  unfold txt
  rw [hlen, Bool.and_comm, ← Bool.and_assoc]
theorem valid_eq (s : ByteArray) {k : Nat} (hk : s.size < k ∨ 60 < k) : impl_ValidText.f k s = some (txt s.data.toList) := by
  have hlen : s.data.toList.length = s.size := data_length s
  unfold impl_ValidText.f
  by_cases h : s.size ≤ 60
  · rw [if_pos (by omega)]
    unfold impl_isSpaced.f
    have := spaced_l0 s (by omega) s.size k 0 (by omega) (by omega)
    rw [show ((0 : Nat) : Int) = 0 from rfl] at this
    rw [this, Option.bind_some]
    have h2 := range_all s.data.toList okB
    rw [hlen] at h2
    rw [h2, contains_two, Bool.not_not]
    unfold txt strings_Trim.f
    rw [hlen, if_pos (show _ ∧ _ from ⟨rfl, by omega⟩), Option.bind_some, toList_data, toList_data]
    have ht := trim_eq_iff s.data.toList
    have hd : decide (s.size ≤ 60) = true := by simpa using h
    rw [hd, Bool.true_and]
    cases (s.data.toList.all okB && noTwo s.data.toList)
    · simp
    · simp only [if_true, Bool.true_and]
      congr 1
      rw [Bool.eq_iff_iff, beq_iff_eq]
      show Lib.trimB s.data.toList 32 = s.data.toList ↔ _
      rw [ht]
      simp
  · rw [if_neg (by omega)]
    unfold txt
    rw [hlen]
    simp [h]
def letters (l : List UInt8) : List UInt8 := l.filter fun b => b != 32
theorem lettersOf_eq (s : ByteArray) (hs : s.size < 4294967281) : impl_lettersOf.f s = some ⟨(letters s.data.toList).toArray⟩ := by
  unfold impl_lettersOf.f strings_ReplaceAll.f
  rw [if_pos (show (_ ∧ _) ∧ _ from ⟨⟨rfl, rfl⟩, hs⟩)]
  rfl
theorem letters_le (l : List UInt8) : (letters l).length ≤ l.length := List.length_filter_le _ _
end Go.Proofs.YtfnhjoemmiepiaaDoor.Pure
namespace Go.Proofs.YtfnhjoemmiepiaaDoor.Ext
open Go.RowKit Go.Proofs.YtfnhjoemmiepiaaDoor.Q Go.Proofs.YtfnhjoemmiepiaaDoorW.PrintWords Go.Proofs.YtfnhjoemmiepiaaDoorW.PrintLast Go.Proofs.YtfnhjoemmiepiaaDoorW.PrintMore
set_option linter.unusedVariables false
set_option linter.unusedSimpArgs false
def strokesOf (l : List Int) (t : List UInt8) : List Int := t.map fun b => rd l ((b.toNat : Int) - 65)
theorem strokesOf_len (l : List Int) (t : List UInt8) : (strokesOf l t).length = t.length := by simp [strokesOf]
theorem strokesOf_take (l : List Int) (t : List UInt8) (n : Nat) (h : n < t.length) : (strokesOf l t).take (n + 1) = (strokesOf l t).take n ++ [rd l (((t.getD n 0).toNat : Int) - 65)] := by
  rw [List.take_succ_eq_append_getElem (by rw [strokesOf_len]; exact h)]
  simp [strokesOf, List.getD_eq_getElem?_getD, List.getElem?_eq_getElem h]
theorem below_lt {w : World} {g : Nat} {o : Obj} (h : w.heap[g]? = some o) : g < w.heap.size := (Array.getElem?_eq_some_iff.1 h).1
theorem below_lt2 {w : World} {g : Nat} {x : Option Obj} {o : Obj} (h : w.heap[g]? = x) (hx : x = some o) : g < w.heap.size := below_lt (h.trans hx)
theorem cell_heap {w w' : World} {g n : Nat} (h : w'.heap[g]? = w.heap[g]?) : w'.cell? ⟨g, n, none⟩ = w.cell? ⟨g, n, none⟩ := by simp only [World.cell?, h]
theorem R_neB {α : Type} {d : Kd α} {e base : Nat} {w : World} {ok : Nat → Prop} {v : Value} {xs : List α} (h : d.R e w base ok v xs) {g : Nat} {o : Obj} (hb : w.heap[g]? = some o) (ho : ∀ cells, o ≠ .cells cells e (0, 0)) : some g ≠ v.ownBlock := by
  intro hc
  obtain ⟨inner, h'⟩ := Kd.R_own h
  obtain ⟨cells, hcell⟩ := own_typed h' g hc.symm
  rw [hcell] at hb
  injection hb with hb
  exact ho cells hb.symm
set_option maxHeartbeats 1000000 in
set_option maxRecDepth 10000 in
theorem each_calls (l : List Int) (hl : l.length = 26) (hw : ∀ y ∈ l, -128 ≤ y ∧ y ≤ 127) (s : ByteArray) (hs : s.size ≤ 60) (ht : ∀ b ∈ Pure.letters s.data.toList, 65 ≤ b.toNat ∧ b.toNat ≤ 90) (w : World) (hG : GlobM w) :
    Calls Tryd.prog 26 #[.agg (cellsK .i8 l), .string s] w fun e w' => ∃ v0_ : Value, e = .returned (v0_) ∧ Kd.R (Kd.int .i64) 2 w' w.heap.size (fun _ => True) v0_ (strokesOf l (Pure.letters s.data.toList)) ∧ Below w.heap.size w w' := by
  have hlet := Pure.lettersOf_eq s (by omega)
  have hle := Pure.letters_le s.data.toList
  rw [data_length] at hle
  obtain ⟨t, hT⟩ : ∃ t, t = Pure.letters s.data.toList := ⟨_, rfl⟩
  rw [← hT] at hlet hle ht ⊢
  have HLet := Aside0.mk hlet
  have HT := Aside0.mk ht
  have HLe := Aside0.mk hle
  have B1 := Aside0.mk (blk_new w (.cells (cellsK .i8 l) 29))
  have HB := Aside0.mk (below_alloc (Below.refl w.heap.size w) (.cells (cellsK .i8 l) 29))
  have HG := Aside0.mk hG
  clear hG hlet hle ht hT
  go_enter Tryd.func26, Tryd.ntmps26
  go_wp2_with (first | ((with_reducible refine gate_dst (N := 8) rfl ?_); refine Kd.R_lit (Kd.int .i64) _ 2 ?hg (N := 8) ?hd (xs := ([] : List Int)) (inner := []) (ok := fun _ => True) (okp := fun _ => True) ?hr ?hp (fun _ hk => hk) trivial (Below.refl _ _) (Nat.le_refl _) (by simp) ?_; (case hd => rfl); (case hg => rfl); (case hr => first | (go_simp; done) | (go_simp; rfl)); (case hp => exact (Reps.none _ _)); intro v8 w3 ho4 hb hg_ hnew_; clear hg_ hnew_; have HO := Aside0.mk (Kd.R_lower ho4 (below_size HB.out)); have B2 := Aside0.mk (blk_below B1.out hb); have n1_ := Aside0.mk (below_step HB.out hb); clear HB B1; have HB := n1_; have B1 := B2; clear n1_ B2; clear hb ho4))
  refine (impl_lettersOf.calls s _ _ (HG.out.below HB.out) HLet.out).mono ?_
  rintro e w4 ⟨rfl, hb⟩
  replace B1 := Aside0.mk (blk_below B1.out hb)
  replace HO := Aside0.mk (Kd.R_below HO.out hb)
  replace HB := Aside0.mk (below_step HB.out hb)
  clear hb
  obtain ⟨S, hS⟩ : ∃ S : ByteArray, S = ⟨t.toArray⟩ := ⟨_, rfl⟩
  have hSd : S.data.toList = t := by rw [hS]
  have hSz : S.size = t.length := by rw [← data_length, hSd]
  rw [← hS]
  clear hS
  have hrow := bytes_reads w4 5 S (by rw [hSz]; have := HLe.out; omega)
  have HB5 := Aside0.mk (bytes_below HB.out HB.out.size 5 S)
  have hb5 : Below w4.heap.size w4 (Lib.bytesWorld w4 5 S) := bytes_below (Below.refl _ _) (Nat.le_refl _) 5 S
  have B5 := Aside0.mk (blk_below B1.out hb5)
  have HO5 := Aside0.mk (Kd.R_below HO.out hb5)
  have HRow := Aside0.mk hrow
  clear hrow hb5 B1 HB HO
  have HSd := Aside0.mk hSd
  have HSz := Aside0.mk hSz
  clear hSd hSz
  have kb := fun W => print_bytes (P := Tryd.prog) 9 79 5 Tryd.underlying9 Tryd.underlying79 Tryd.underlying5 S W
  go_wp2_with fail
  go_loopw [5, 13] (fun v i wr => ∃ n : Nat, n ≤ t.length ∧ i = .int .i64 n ∧ Aside0 (Kd.R (Kd.int .i64) 2 wr w.heap.size (fun _ => True) v ((strokesOf l t).take n)) ∧ Aside0 (Below w.heap.size w wr) ∧ Aside0 (wr.heap[w.heap.size]? = some (.cells (cellsK .i8 l) 29 (0, 0))) ∧ Aside0 (wr.heap[w4.heap.size]? = (Lib.bytesWorld w4 5 S).heap[w4.heap.size]?)) (fun v i _ => S.size - (intOf i).toNat)
  case atStart =>
    exact ⟨0, by omega, rfl, ⟨by rw [List.take_zero]; exact HO5.out⟩, ⟨HB5.out⟩, ⟨B5.out⟩, ⟨rfl⟩⟩
  case round =>
    obtain ⟨n, hn, rfl, HO, HB, B1, HRw⟩ := hrel
    have hSz := HSz.out
    have h60 : t.length ≤ 60 := by have := HLe.out; omega
    by_cases hlt : n < t.length
    · have hltz : (n : Int) < S.size := by omega
      obtain ⟨b, hb⟩ : ∃ b, b = t.getD n 0 := ⟨_, rfl⟩
      have hbr : 65 ≤ b.toNat ∧ b.toNat ≤ 90 := by
        rw [hb, List.getD_eq_getElem?_getD, List.getElem?_eq_getElem hlt]
        exact HT.out _ (List.getElem_mem hlt)
      have hc : wr.cell? ⟨w4.heap.size, n, none⟩ = some (.int .u8 b.toNat) := by
        rw [cell_heap HRw.out, Lib.bytesWorld_cell w4 5 S n (by omega), HSd.out, hb]
      obtain ⟨q, hq⟩ : ∃ q : Nat, (q : Int) = (b.toNat : Int) - 65 := ⟨b.toNat - 65, by omega⟩
      have hq25 : q < 26 := by omega
      have hcl : wr.cell? ⟨w.heap.size, q, none⟩ = some (.int .i8 (rd l q)) := cellsK_cell B1.out q (by omega)
      obtain ⟨y, hy⟩ : ∃ y, y = rd l (q : Int) := ⟨_, rfl⟩
      have hyr := hw (rd l q) (rd_mem' l q (by omega))
      rw [← hy] at hcl hyr
      obtain ⟨z, hz⟩ : ∃ z : Int, z = (b.toNat : Int) := ⟨_, rfl⟩
      rw [← hz] at hc hq
      have hz1 : 65 ≤ z := by omega
      have hz2 : z ≤ 90 := by omega
      have hx : (strokesOf l t).take (n + 1) = (strokesOf l t).take n ++ [y] := by rw [strokesOf_take l t n hlt, hy, hq, hz, hb]
      have hxl : ((strokesOf l t).take n).length ≤ 60 := by rw [List.length_take]; have := HLe.out; omega
      obtain ⟨xs, hxs⟩ : ∃ xs, xs = (strokesOf l t).take n := ⟨_, rfl⟩
      rw [← hxs] at hx hxl HO
      have HX := Aside0.mk hx
      have HXL := Aside0.mk hxl
      have HXS := Aside0.mk hxs
      clear hx hxl hxs hy hb hbr hz
      have hzq : z - 65 = q := hq.symm
      have hzw : (z - 65) % 256 = q := by omega
      clear hq hSz
      go_wp2_with (first | ((with_reducible refine gate_builtin (b := .append) (xs := #[.tmp 17, .tmp 23]) rfl ?_); at_builtin; refine Kd.R_append (Kd.int .i64) (w0 := w) w.heap.size rfl (.tmp 17) (.tmp 23) 55 2 (.int .i64 0) 8 rfl Tryd.underlying55 info_i64 rfl (by decide) (by omega) u5 xs y [.int .i64 y] (fun _ => True) (fun _ => False) rfl rfl ?aP (fun _ hk => hk.elim) ?aF ?aO ?aB ?aS ?aL ?_; (case aP => exact rfl); (case aB => exact (by repeat (first | (with_reducible first | exact HB.out | apply below_alloc | apply pw_below_drewN | apply below_drew1) | exact HB.out))); (case aF => exact (fun _ _ => trivial)); (case aO => exact (by (with_reducible repeat (first | apply Kd.R_alloc | apply Kd.R_drewN | apply Kd.R_drew)); exact HO.out)); (case aS => exact (below_size (by repeat (first | (with_reducible first | exact HB.out | apply below_alloc | apply pw_below_drewN | apply below_drew1) | exact HB.out)))); (case aL => have := HXL.out; omega); intro v1 w9 ho hb hg hat; have B2 := Aside0.mk ((hg.block w.heap.size (below_lt B1.out) (R_neB HO.out B1.out (by simp))).trans B1.out); have H2 := Aside0.mk ((hg.block w4.heap.size (below_lt2 HRw.out (by rw [Lib.bytesWorld_at_new])) (R_neB HO.out (HRw.out.trans (Lib.bytesWorld_at_new _ _ _)) (by simp))).trans HRw.out); have HB2 := Aside0.mk hb; have HO2 := Aside0.mk ho; clear ho hb hg hat HB HO B1 HRw))
      go_roundw
      case rel =>
        exact ⟨n + 1, by omega, by go_num, ⟨by rw [← HXS.out] at *; rw [HX.out]; exact HO2.out⟩, ⟨HB2.out⟩, ⟨B2.out⟩, ⟨H2.out⟩⟩
      case measure => simp [intOf]; have := HSz.out; omega
    · have hltz : ¬ (n : Int) < S.size := by omega
      obtain rfl : n = t.length := by omega
      clear hSz
      go_wp2
      go_ret
      refine ⟨_, rfl, ?_, HB.out⟩
      have := HO.out
      rwa [List.take_of_length_le (by rw [strokesOf_len]; exact Nat.le_refl _)] at this
theorem cellB {w w1 : World} {p : Addr} {v : Value} (h : w.cell? p = some v) (hb : Below w.heap.size w w1) : w1.cell? p = some v := (hb.cell (World.block_lt_of_cell? w _ h)).trans h
theorem take_letters (t : List UInt8) (n : Nat) (h : n < t.length) : Pure.letters (t.take (n + 1)) = Pure.letters (t.take n) ++ (if t.getD n 0 = 32 then [] else [t.getD n 0]) := by
  have e : t.getD n 0 = t[n] := by rw [List.getD_eq_getElem?_getD, List.getElem?_eq_getElem h]; rfl
  rw [List.take_succ_eq_append_getElem h, e]
  unfold Pure.letters
  rw [List.filter_append]
  congr 1
  by_cases hx : t[n] = 32
  · rw [if_pos hx, hx]; rfl
  · rw [if_neg hx, List.filter_cons_of_pos (by simpa using hx)]; rfl
set_option maxHeartbeats 1000000 in
set_option maxRecDepth 10000 in
theorem l05List_calls (g : Nat) (l : List Int) (hl : l.length = 26) (hw : ∀ y ∈ l, -128 ≤ y ∧ y ≤ 127) (s : ByteArray) (hs : s.size ≤ 60) (ht : ∀ b ∈ Pure.letters s.data.toList, 65 ≤ b.toNat ∧ b.toNat ≤ 90) (w : World) (hg : w.heap[g]? = some (.cells (cellsK .i8 l) 29 (0, 0))) :
    Calls Tryd.prog 23 #[.pointer (some ⟨g, 0, none⟩), .string s] w fun e w' => ∃ v0_ : Value, e = .returned (v0_) ∧ Kd.R (Kd.int .i64) 2 w' w.heap.size (fun _ => True) v0_ (strokesOf l (Pure.letters s.data.toList)) ∧ Below w.heap.size w w' := by
  have B1 := Aside0.mk hg
  have HB := Aside0.mk (Below.refl w.heap.size w)
  have HT := Aside0.mk ht
  have hlen := data_length s
  have HLen := Aside0.mk hlen
  clear hg ht hlen
  go_enter Tryd.func23, Tryd.ntmps23
  go_wp2_with (first | ((with_reducible refine gate_dst (N := 7) rfl ?_); refine Kd.R_lit (Kd.int .i64) _ 2 ?hg (N := 7) ?hd (xs := ([] : List Int)) (inner := []) (ok := fun _ => True) (okp := fun _ => True) ?hr ?hp (fun _ hk => hk) trivial (Below.refl _ _) (Nat.le_refl _) (by simp) ?_; (case hd => rfl); (case hg => rfl); (case hr => first | (go_simp; done) | (go_simp; rfl)); (case hp => exact (Reps.none _ _)); intro v8 w3 ho4 hb hg_ hnew_; clear hg_ hnew_; have HO := Aside0.mk (Kd.R_lower ho4 (below_size HB.out)); have n1_ := Aside0.mk (below_step HB.out hb); clear HB; have HB := n1_; clear n1_; clear hb ho4))
  go_loopw [5, 6] (fun v i wr => ∃ n : Nat, n ≤ s.size ∧ i = .int .i64 n ∧ Aside0 (Kd.R (Kd.int .i64) 2 wr w.heap.size (fun _ => True) v (strokesOf l (Pure.letters (s.data.toList.take n)))) ∧ Aside0 (Below w.heap.size w wr)) (fun v i _ => s.size - (intOf i).toNat)
  case atStart =>
    exact ⟨0, by omega, rfl, ⟨by rw [List.take_zero]; exact HO.out⟩, ⟨HB.out⟩⟩
  case round =>
    obtain ⟨n, hn, rfl, HO, HB⟩ := hrel
    by_cases hlt : n < s.size
    · have hltz : (n : Int) < s.size := by omega
      have hld : n < s.data.toList.length := by rw [HLen.out]; exact hlt
      obtain ⟨b, hb⟩ : ∃ b, b = s.data.toList.getD n 0 := ⟨_, rfl⟩
      obtain ⟨z, hz⟩ : ∃ z : Int, z = (b.toNat : Int) := ⟨_, rfl⟩
      have hix : ∀ h : n < s.size, ((s[n]'h).toNat : Int) = z := fun h => by
        have h1 := bt_at s (n : Int) (by rw [Int.toNat_natCast]; exact h)
        have h2 := Pure.bt_get s n hld
        rw [h2, ← hb, ← hz] at h1
        simpa using h1
      have htk := take_letters s.data.toList n hld
      rw [← hb] at htk
      by_cases h32 : b = 32
      · have hz32 : z = 32 := by rw [hz, h32]; rfl
        rw [if_pos h32, List.append_nil] at htk
        have HTk := Aside0.mk htk
        clear htk h32 hb hz
        subst hz32
        go_wp2_with (fail)
        go_roundw
        case rel => exact ⟨n + 1, by omega, by go_num, ⟨by rw [HTk.out]; exact HO.out⟩, ⟨HB.out⟩⟩
        case measure => simp [intOf]; omega
      · have hzne : (z == 32) = false := by
          rw [beq_eq_false_iff_ne]; intro h; exact h32 ((Pure.is32 b).1 (by rw [← hz]; exact h))
        have hzne2 : (z != 32) = true := by rw [bne, hzne]; rfl
        rw [if_neg h32] at htk
        have hbr : 65 ≤ b.toNat ∧ b.toNat ≤ 90 := by
          refine HT.out b ?_
          unfold Pure.letters
          rw [List.mem_filter]
          refine ⟨?_, by simpa using h32⟩
          rw [hb, List.getD_eq_getElem?_getD, List.getElem?_eq_getElem hld]
          exact List.getElem_mem hld
        obtain ⟨q, hq⟩ : ∃ q : Nat, (q : Int) = (b.toNat : Int) - 65 := ⟨b.toNat - 65, by omega⟩
        have hq25 : q < 26 := by omega
        have hcl : wr.cell? ⟨g, q, none⟩ = some (.int .i8 (rd l q)) := cellB (cellsK_cell B1.out q (by omega)) HB.out
        obtain ⟨y, hy⟩ : ∃ y, y = rd l (q : Int) := ⟨_, rfl⟩
        have hyr := hw (rd l q) (rd_mem' l q (by omega))
        rw [← hy] at hcl hyr
        rw [← hz] at hq
        have hz1 : 65 ≤ z := by omega
        have hz2 : z ≤ 90 := by omega
        have hx : strokesOf l (Pure.letters (s.data.toList.take (n + 1))) = strokesOf l (Pure.letters (s.data.toList.take n)) ++ [y] := by
          rw [htk]
          unfold strokesOf
          rw [List.map_append, hy, hq, hz]
          rfl
        have hxl : (strokesOf l (Pure.letters (s.data.toList.take n))).length ≤ 60 := by
          rw [strokesOf_len]
          have := Pure.letters_le (s.data.toList.take n)
          rw [List.length_take] at this
          omega
        obtain ⟨xs, hxs⟩ : ∃ xs, xs = strokesOf l (Pure.letters (s.data.toList.take n)) := ⟨_, rfl⟩
        rw [← hxs] at hx hxl HO
        have HX := Aside0.mk hx
        have HXL := Aside0.mk hxl
        have HXS := Aside0.mk hxs
        clear hx hxl hxs hy hb hbr hz htk h32
        have hzq : z - 65 = q := hq.symm
        have hzw : (z - 65) % 256 = q := by omega
        clear hq
        have hqw : IntKind.u8.wrap (q : Int) = q := by
          simp [IntKind.wrap, IntKind.signed, IntKind.bits]; omega
        have hq26 : (q : Int) < 26 := by omega
        have hyw : wrap64 y = y := by unfold wrap64; omega
        have hyw2 : IntKind.i64.wrap y = y := by simp [IntKind.wrap, IntKind.signed, IntKind.bits]; omega
        go_wp2_with (fail)
        refine start_ (n := 13) (S := fun w' => w'.cell? ⟨g, q, none⟩ = some (.int .i8 y) ∧ Kd.R (Kd.int .i64) 2 w' w.heap.size (fun _ => True) u5 xs ∧ Below w.heap.size w w') (ds := [11, 12]) #[false, false, false, false, false, false, false, false, false, false, false, false, false] (by kernel_rfl) rfl rfl ⟨(cellB hcl (below_drew (Below.refl _ _))), (Kd.R_drew HO.out), (below_step HB.out (below_drew (Below.refl _ _)))⟩ (fun hHeld => ?_)
        refine pure_ (i := 0) (N := some 18) (v := ?_) (a' := ?_) #[true, false, false, false, false, false, false, false, false, false, false, false, false] rfl rfl (by kernel_rfl) (fun _ _ _ h => h) (Or.inl ⟨by rfl, ?_⟩) ?_ ?_
        rotate_left
        · intro w'
          go_simp
          with_reducible rfl
        rotate_left
        · simp only [Act.put, List.setIfInBounds_toArray, List.set_cons_zero, List.set_cons_succ, i64_w, i32_w]
          rfl
        refine pure_ (i := 1) (N := some 19) (v := ?_) (a' := ?_) #[true, true, false, false, false, false, false, false, false, false, false, false, false] rfl rfl (by kernel_rfl) (fun _ _ _ h => h) (Or.inl ⟨by rfl, ?_⟩) ?_ ?_
        rotate_left
        · intro w'
          go_simp
          with_reducible rfl
        rotate_left
        · simp only [Act.put, List.setIfInBounds_toArray, List.set_cons_zero, List.set_cons_succ, i64_w, i32_w]
          rfl
        refine pure_ (i := 2) (N := some 20) (v := ?_) (a' := ?_) #[true, true, true, false, false, false, false, false, false, false, false, false, false] rfl rfl (by kernel_rfl) (fun _ _ _ h => h) (Or.inl ⟨by rfl, ?_⟩) ?_ ?_
        rotate_left
        · intro w'
          go_simp
          with_reducible rfl
        rotate_left
        · simp only [Act.put, List.setIfInBounds_toArray, List.set_cons_zero, List.set_cons_succ, i64_w, i32_w]
          rfl
        refine pure_ (i := 3) (N := some 21) (v := ?_) (a' := ?_) #[true, true, true, true, false, false, false, false, false, false, false, false, false] rfl rfl (by kernel_rfl) (fun _ _ _ h => h) (Or.inl ⟨by rfl, ?_⟩) ?_ ?_
        rotate_left
        · intro w'
          go_simp
          with_reducible rfl
        rotate_left
        · simp only [Act.put, List.setIfInBounds_toArray, List.set_cons_zero, List.set_cons_succ, i64_w, i32_w]
          rfl
        refine pure_ (i := 6) (N := some 24) (v := ?_) (a' := ?_) #[true, true, true, true, false, false, true, false, false, false, false, false, false] rfl rfl (by kernel_rfl) (fun _ _ _ h => h) (Or.inl ⟨by rfl, ?_⟩) ?_ ?_
        rotate_left
        · intro w'
          go_simp
          with_reducible rfl
        rotate_left
        · simp only [Act.put, List.setIfInBounds_toArray, List.set_cons_zero, List.set_cons_succ, i64_w, i32_w]
          rfl
        refine take_ (i := 4) (N := some 22) (v := ?_) (a' := ?_) #[true, true, true, true, true, false, true, false, false, false, false, false, false] rfl rfl (by kernel_rfl) (fun _ _ _ h => h) (Or.inl ⟨by rfl, ?_⟩) hHeld ?_ ?_
        rotate_left
        · rintro w' ⟨s0, s1, s2⟩
          go_simp
          with_reducible rfl
        rotate_left
        · simp only [Act.put, List.setIfInBounds_toArray, List.set_cons_zero, List.set_cons_succ, i64_w, i32_w]
          rfl
        refine pure_ (i := 5) (N := some 23) (v := ?_) (a' := ?_) #[true, true, true, true, true, true, true, false, false, false, false, false, false] rfl rfl (by kernel_rfl) (fun _ _ _ h => h) (Or.inl ⟨by rfl, ?_⟩) ?_ ?_
        rotate_left
        · intro w'
          go_simp
          with_reducible rfl
        rotate_left
        · simp only [Act.put, List.setIfInBounds_toArray, List.set_cons_zero, List.set_cons_succ, i64_w, i32_w]
          rfl
        refine pure_ (i := 7) (N := some 25) (v := ?_) (a' := ?_) #[true, true, true, true, true, true, true, true, false, false, false, false, false] rfl rfl (by kernel_rfl) (fun _ _ _ h => h) (Or.inl ⟨by rfl, ?_⟩) ?_ ?_
        rotate_left
        · intro w'
          go_simp
          with_reducible rfl
        rotate_left
        · simp only [Act.put, List.setIfInBounds_toArray, List.set_cons_zero, List.set_cons_succ, i64_w, i32_w]
          rfl
        refine take_ (i := 8) (N := some 26) (v := ?_) (a' := ?_) #[true, true, true, true, true, true, true, true, true, false, false, false, false] rfl rfl (by kernel_rfl) (fun _ _ _ h => h) (Or.inl ⟨by rfl, ?_⟩) hHeld ?_ ?_
        rotate_left
        · rintro w' ⟨s0, s1, s2⟩
          go_simp
          with_reducible rfl
        rotate_left
        · simp only [Act.put, List.setIfInBounds_toArray, List.set_cons_zero, List.set_cons_succ, i64_w, i32_w]
          rfl
        refine pure_ (i := 9) (N := some 27) (v := ?_) (a' := ?_) #[true, true, true, true, true, true, true, true, true, true, false, false, false] rfl rfl (by kernel_rfl) (fun _ _ _ h => h) (Or.inl ⟨by rfl, ?_⟩) ?_ ?_
        rotate_left
        · intro w'
          go_simp
          with_reducible rfl
        rotate_left
        · simp only [Act.put, List.setIfInBounds_toArray, List.set_cons_zero, List.set_cons_succ, i64_w, i32_w]
          rfl
        refine one_ (i := 10) (N := some 28) #[true, true, true, true, true, true, true, true, true, true, true, false, false] rfl rfl (by kernel_rfl) (by decide) (fun K hK => ?_)
        have hPre := hHeld
        refine value_ (w1 := ?_) (v := ?_) (by rfl) rfl ?_ ?_
        rotate_left 2
        · go_simp
          constructor
          · rfl
          · rfl
        refine hK.out _ _ ⟨(cellB hHeld.1 (below_alloc (Below.refl _ _) _)), (Kd.R_alloc hHeld.2.1 _), (below_alloc hHeld.2.2 _)⟩ (fun hHeld => ?_)
        clear hK K
        refine norm_ (a' := ?_) ?_ ?_
        rotate_left
        · show Act.put _ (some 28) _ = _
          simp only [Act.put, List.setIfInBounds_toArray, List.set_cons_zero, List.set_cons_succ, i64_w, i32_w]
          rfl
        refine last_ (i := 11) (N := some 29) #[true, true, true, true, true, true, true, true, true, true, true, true, false] rfl rfl (by kernel_rfl) (by decide) (fun K hK => ?_)
        refine Kd.R_append_step (Kd.int .i64) (w0 := w) w.heap.size (by rfl) (.tmp 18) (.tmp 28) 55 2 (.int .i64 0) 8 rfl Tryd.underlying55 info_i64 rfl (by decide) (by omega) u5 xs y [.int .i64 y] (fun _ => True) (fun _ => False) rfl rfl rfl (fun _ hk => hk.elim) (fun _ _ => trivial) hPre.2.1 hPre.2.2 (below_size hPre.2.2) (by have := HXL.out; omega) ?_
        intro v29 w9 ho hb hg hat
        refine hK.out _ _ ?_
        clear hK K
        refine norm_ (a' := ?_) ?_ ?_
        rotate_left
        · show Act.put _ (some 29) _ = _
          simp only [Act.put, List.setIfInBounds_toArray, List.set_cons_zero, List.set_cons_succ, i64_w, i32_w]
          rfl
        refine pure_ (i := 12) (N := some 5) (v := ?_) (a' := ?_) #[true, true, true, true, true, true, true, true, true, true, true, true, true] rfl rfl (by kernel_rfl) (fun _ _ _ h => h) (Or.inl ⟨by rfl, ?_⟩) ?_ ?_
        rotate_left
        · intro w'
          go_simp
          with_reducible rfl
        rotate_left
        · simp only [Act.put, List.setIfInBounds_toArray, List.set_cons_zero, List.set_cons_succ, i64_w, i32_w]
          rfl
        refine done_ (by kernel_rfl) ?_
        go_wp2_with (fail)
        go_roundw
        case rel => exact ⟨n + 1, by omega, by go_num, ⟨by rw [HX.out]; exact ho⟩, ⟨hb⟩⟩
        case measure => simp [intOf]; omega
    · have hltz : ¬ (n : Int) < s.size := by omega
      obtain rfl : n = s.size := by omega
      go_wp2
      go_ret
      refine ⟨_, rfl, ?_, HB.out⟩
      have := HO.out
      rwa [List.take_of_length_le (by rw [HLen.out]; exact Nat.le_refl _)] at this
open Go.RowKit Go.Proofs.YtfnhjoemmiepiaaDoorW.PrintWords Go.Proofs.YtfnhjoemmiepiaaDoorW.PrintLast Go.Proofs.YtfnhjoemmiepiaaDoorW.PrintMore
open Go.RowKit Go.Proofs.YtfnhjoemmiepiaaDoor.Q Go.Proofs.YtfnhjoemmiepiaaDoor.Txt Go.Proofs.YtfnhjoemmiepiaaDoorW.PrintWords Go.Proofs.YtfnhjoemmiepiaaDoorW.PrintLast Go.Proofs.YtfnhjoemmiepiaaDoorW.PrintMore
theorem wf8 {l : List Int} (h : ∀ y ∈ l, (Lit.int .i8 y).wf = true) : ∀ y ∈ l, -128 ≤ y ∧ y ≤ 127 := fun y hy => by simpa [Lit.wf, IntKind.min, IntKind.max, IntKind.signed, IntKind.bits] using h y hy
theorem info_Strokes : (Tryd.prog.info? 29).map (·.size) = some 26 := by kernel_rfl
theorem txt_letters {t : List UInt8} (h : txt t = true) : ∀ b ∈ Pure.letters t, 65 ≤ b.toNat ∧ b.toNat ≤ 90 := by
  intro b hb
  unfold Pure.letters at hb
  rw [List.mem_filter] at hb
  unfold txt at h
  simp only [Bool.and_eq_true, List.all_eq_true] at h
  have := h.1.2.1 b hb.1
  unfold okB at this
  simp only [Bool.or_eq_true, Bool.and_eq_true, decide_eq_true_eq, beq_iff_eq] at this
  rcases this with h1 | h1
  · exact h1
  · simp [h1] at hb
theorem txt60 {s : ByteArray} (h : txt s.data.toList = true) : s.size ≤ 60 := by
  unfold txt at h
  simp only [Bool.and_eq_true, decide_eq_true_eq] at h
  have := data_length s
  omega
theorem text_calls (s : ByteArray) (hs : s.size ≤ 1048576) (w : World) : Calls Tryd.prog 30 #[.string s] w fun e w' => e = .returned (.bool (txt s.data.toList)) ∧ Below w.heap.size w w' :=
  (spec_l01Text.calls (s.size + 1) s _ w (Pure.text_eq s (by omega) (by omega))).mono fun e w' h => ⟨h.1, by have := h.2; first | exact this | exact this.below⟩
theorem vtext_calls (s : ByteArray) (w : World) (hG : GlobM w) : Calls Tryd.prog 33 #[.string s] w fun e w' => e = .returned (.bool (txt s.data.toList)) ∧ Below w.heap.size w w' :=
  (impl_ValidText.calls 100 s _ w hG (Pure.valid_eq s (by omega))).mono fun e w' h => ⟨h.1, by have := h.2; first | exact this | exact this.below⟩
def okC (l : List Int) (a b : Int) (s : ByteArray) : Bool := strokesB l && (chiselB a b && txt s.data.toList)
theorem okC_1 {l : List Int} {a b : Int} {s : ByteArray} (h : okC l a b s = true) : strokesB l = true := by unfold okC at h; simp only [Bool.and_eq_true] at h; exact h.1
theorem okC_3 {l : List Int} {a b : Int} {s : ByteArray} (h : okC l a b s = true) : txt s.data.toList = true := by unfold okC at h; simp only [Bool.and_eq_true] at h; exact h.2.2
def codeOf : Bool → Int
  | true => 0
  | false => 1
set_option maxHeartbeats 1000000 in
theorem asked_calls (g0 g1 : Nat) (l : List Int) (hl : l.length = 26) (hw : ∀ y ∈ l, -128 ≤ y ∧ y ≤ 127) (a b : Int) (ha : -32768 ≤ a ∧ a ≤ 32767) (hb' : -128 ≤ b ∧ b ≤ 127) (s : ByteArray) (hs : s.size ≤ 1048576) (w : World)
    (h0 : w.heap[g0]? = some (.cells (cellsK .i8 l) 29 (0, 0))) (h1 : w.heap[g1]? = some (.cells #[.int .i16 a, .int .i8 b] 31 (0, 0))) :
    Calls Tryd.prog 22 #[.pointer (some ⟨g0, 0, none⟩), .pointer (some ⟨g1, 0, none⟩), .string s] w fun e w' => e = .returned (.int .i64 (codeOf (okC l a b s))) ∧ Below w.heap.size w w' := by
  have B0 := Aside0.mk h0
  have B1 := Aside0.mk h1
  have HS := Aside0.mk hs
  clear h0 h1 hs
  go_enter Tryd.func22, Tryd.ntmps22
  go_wp2_with fail
  refine (l05Strokes_calls g0 l hl hw _ B0.out).mono ?_
  rintro e w' ⟨rfl, rfl⟩
  cases h : strokesB l
  · have H := Aside0.mk h
    clear h
    go_wp2_with fail
    go_ret
    exact ⟨by unfold okC; rw [H.out]; rfl, Below.refl _ _⟩
  · have H := Aside0.mk h
    clear h
    go_wp2_with fail
    refine (l05Chisel_calls g1 a b _ B1.out ha hb').mono ?_
    rintro e w' ⟨rfl, rfl⟩
    cases h : chiselB a b
    · have H2 := Aside0.mk h
      clear h
      go_wp2_with fail
      go_ret
      exact ⟨by unfold okC; rw [H.out, H2.out]; rfl, Below.refl _ _⟩
    · have H2 := Aside0.mk h
      clear h
      go_wp2_with fail
      refine (text_calls s HS.out _).mono ?_
      rintro e w2 ⟨rfl, hb⟩
      have HB := Aside0.mk hb
      clear hb
      cases h : txt s.data.toList
      · have H3 := Aside0.mk h
        clear h
        go_wp2_with fail
        go_ret
        exact ⟨by unfold okC; rw [H.out, H2.out, H3.out]; rfl, HB.out⟩
      · have H3 := Aside0.mk h
        clear h
        go_wp2_with fail
        go_ret
        exact ⟨by unfold okC; rw [H.out, H2.out, H3.out]; rfl, HB.out⟩
theorem asked_at (ok : Bool) (g0 g1 : Nat) (l : List Int) (hl : l.length = 26) (hw : ∀ y ∈ l, -128 ≤ y ∧ y ≤ 127) (a b : Int) (ha : -32768 ≤ a ∧ a ≤ 32767) (hb' : -128 ≤ b ∧ b ≤ 127) (s : ByteArray) (hs : s.size ≤ 1048576) (w : World)
    (h0 : w.heap[g0]? = some (.cells (cellsK .i8 l) 29 (0, 0))) (h1 : w.heap[g1]? = some (.cells #[.int .i16 a, .int .i8 b] 31 (0, 0))) (h : okC l a b s = ok) :
    Calls Tryd.prog 22 #[.pointer (some ⟨g0, 0, none⟩), .pointer (some ⟨g1, 0, none⟩), .string s] w fun e w' => e = .returned (.int .i64 (codeOf ok)) ∧ Below w.heap.size w w' := by
  subst h
  exact asked_calls g0 g1 l hl hw a b ha hb' s hs w h0 h1
theorem unless_calls (x : Bool) (w : World) : Calls Tryd.prog 44 #[.bool x, .int .i64 1] w fun e w' => e = .returned (.int .i64 (codeOf x)) ∧ Below w.heap.size w w' :=
  (impl_unless.calls x 1 (codeOf x) w (by cases x <;> rfl)).mono fun e w' h => ⟨h.1, by have := h.2; first | exact this | exact this.below⟩
set_option maxHeartbeats 1000000 in
theorem chiselCode_calls (l : List Int) (hl : l.length = 26) (hw : ∀ y ∈ l, -128 ≤ y ∧ y ≤ 127) (a b : Int) (ha : -32768 ≤ a ∧ a ≤ 32767) (hb' : -128 ≤ b ∧ b ≤ 127) (s : ByteArray) (w : World) (hG : GlobM w) :
    Calls Tryd.prog 25 #[.agg (cellsK .i8 l), .agg #[.int .i16 a, .int .i8 b], .string s] w fun e w' => e = .returned (.int .i64 (codeOf (okC l a b s))) ∧ Below w.heap.size w w' := by
  have B0 := Aside0.mk (blk_alloc (blk_new w (.cells (cellsK .i8 l) 29)) (.cells #[.int .i16 a, .int .i8 b] 31))
  have B1 := Aside0.mk (blk_at (W := w.alloc (.cells (cellsK .i8 l) 29)) (n := w.heap.size + 1) (by simp) (.cells #[.int .i16 a, .int .i8 b] 31))
  have HB := Aside0.mk (below_alloc (below_alloc (Below.refl w.heap.size w) (.cells (cellsK .i8 l) 29)) (.cells #[.int .i16 a, .int .i8 b] 31))
  have hsz : (Tryd.prog.info? 29).map (·.size) = some (cellsK .i8 l).size := by rw [cellsK_size, hl]; exact info_Strokes
  have HSZ := Aside0.mk hsz
  have HSY : Aside0 ((Tryd.prog.info? 31).map (·.size) = some (#[.int .i16 a, .int .i8 b] : Array Value).size) := ⟨(by kernel_rfl : (Tryd.prog.info? 31).map (·.size) = some 2)⟩
  have HG := Aside0.mk hG
  clear hsz hG
  go_enter Tryd.func25, Tryd.ntmps25
  go_wp2_with (first | ((with_reducible refine gate_dst (N := 7) rfl ?_); refine wpList_load_row rfl 29 (.tmp 3) rfl w.heap.size rfl _ _ _ _ B0.out Tryd.underlying29 rfl HSZ.out ?_) | fail)
  refine (implValidStrokes_calls l hl hw _).mono ?_
  rintro e w1 ⟨rfl, hb⟩
  replace B1 := Aside0.mk (blk_below B1.out hb)
  replace HB := Aside0.mk (below_step HB.out hb)
  clear hb B0
  cases h : strokesB l
  · have H := Aside0.mk h
    clear h
    go_wp2_with fail
    refine (unless_calls _ _).mono ?_
    rintro e w2 ⟨rfl, hb⟩
    replace HB := Aside0.mk (below_step HB.out hb)
    clear hb
    go_wp2_with fail
    go_ret
    exact ⟨by unfold okC; rw [H.out]; rfl, HB.out⟩
  · have H := Aside0.mk h
    clear h
    have c0 : w1.cell? ⟨w.heap.size + 1, 0, none⟩ = some (.int .i16 a) := (blk_cell B1.out 0).trans rfl
    have c1 : w1.cell? ⟨w.heap.size + 1, 1, none⟩ = some (.int .i8 b) := (blk_cell B1.out 1).trans rfl
    go_wp2_with fail
    clear c0 c1
    refine (implValidChisel_calls a b _ ha hb').mono ?_
    rintro e w2 ⟨rfl, hb⟩
    replace HB := Aside0.mk (below_step HB.out hb)
    clear hb B1
    cases h : chiselB a b
    · have H2 := Aside0.mk h
      clear h
      go_wp2_with fail
      refine (unless_calls _ _).mono ?_
      rintro e w3 ⟨rfl, hb⟩
      replace HB := Aside0.mk (below_step HB.out hb)
      clear hb
      go_wp2_with fail
      go_ret
      exact ⟨by unfold okC; rw [H.out, H2.out]; rfl, HB.out⟩
    · have H2 := Aside0.mk h
      clear h
      go_wp2_with fail
      refine (vtext_calls s _ (HG.out.below HB.out)).mono ?_
      rintro e w3 ⟨rfl, hb⟩
      replace HB := Aside0.mk (below_step HB.out hb)
      clear hb
      have HE := Aside0.mk (show okC l a b s = txt s.data.toList by unfold okC; rw [H.out, H2.out]; rfl)
      generalize txt s.data.toList = x at *
      go_wp2_with fail
      refine (unless_calls _ _).mono ?_
      rintro e w4 ⟨rfl, hb⟩
      replace HB := Aside0.mk (below_step HB.out hb)
      clear hb
      go_wp2_with fail
      go_ret
      exact ⟨by rw [HE.out]; rfl, HB.out⟩
theorem chiselCode_at (ok : Bool) (l : List Int) (hl : l.length = 26) (hw : ∀ y ∈ l, -128 ≤ y ∧ y ≤ 127) (a b : Int) (ha : -32768 ≤ a ∧ a ≤ 32767) (hb' : -128 ≤ b ∧ b ≤ 127) (s : ByteArray) (w : World) (hG : GlobM w) (h : okC l a b s = ok) :
    Calls Tryd.prog 25 #[.agg (cellsK .i8 l), .agg #[.int .i16 a, .int .i8 b], .string s] w fun e w' => e = .returned (.int .i64 (codeOf ok)) ∧ Below w.heap.size w w' := by
  subst h
  exact chiselCode_calls l hl hw a b ha hb' s w hG
def ltC (l : List Int) (a b : Int) (s : ByteArray) : Int × Int :=
  if okC l a b s = true then (if 8 < (strokesOf l (Pure.letters s.data.toList)).length then (0, 3) else (Pure.leastC a b (strokesOf l (Pure.letters s.data.toList)), 0)) else (0, 1)
theorem strokesB_at {l : List Int} (h : strokesB l = true) : ∀ y ∈ l, 1 ≤ y ∧ y ≤ 30 := fun y hy => by
  unfold strokesB at h
  exact inB_iff.1 (List.all_eq_true.1 h y hy)
theorem tok_of {l : List Int} (hl : l.length = 26) (hb : strokesB l = true) {t : List UInt8} (ht : ∀ b ∈ t, 65 ≤ b.toNat ∧ b.toNat ≤ 90) (h8 : ¬ 8 < (strokesOf l t).length) : Pure.TOk (strokesOf l t) := by
  refine ⟨by omega, fun i hi => ?_⟩
  have hm := Pure.rd_mem (strokesOf l t) i hi
  unfold strokesOf at hm ⊢
  rw [List.mem_map] at hm
  obtain ⟨x, hx, he⟩ := hm
  have hx2 := ht x hx
  have hm2 := Pure.rd_mem l (x.toNat - 65) (by rw [hl]; omega)
  have := strokesB_at hb _ hm2
  rw [show ((x.toNat : Int) - 65) = ((x.toNat - 65 : Nat) : Int) by omega] at he
  rw [he] at this
  omega
theorem okC_a {l : List Int} {a b : Int} {s : ByteArray} (h : okC l a b s = true) : 0 ≤ a ∧ a ≤ 32767 := by
  unfold okC chiselB at h
  simp only [Bool.and_eq_true, inB_iff] at h
  omega
set_option maxHeartbeats 1000000 in
theorem specLeast_calls (l : List Int) (hl : l.length = 26) (hw : ∀ y ∈ l, -128 ≤ y ∧ y ≤ 127) (a b : Int) (ha : -32768 ≤ a ∧ a ≤ 32767) (hb' : -128 ≤ b ∧ b ≤ 127) (s : ByteArray) (hs : s.size ≤ 1048576) (w : World) :
    Calls Tryd.prog 7 #[.agg (cellsK .i8 l), .agg #[.int .i16 a, .int .i8 b], .string s] w fun e w' => e = .returned (.tuple #[.int .i64 (ltC l a b s).1, .int .i64 (ltC l a b s).2]) ∧ Below w.heap.size w w' := by
  have B0 := Aside0.mk (blk_alloc (blk_new w (.cells (cellsK .i8 l) 29)) (.cells #[.int .i16 a, .int .i8 b] 31))
  have B1 := Aside0.mk (blk_at (W := w.alloc (.cells (cellsK .i8 l) 29)) (n := w.heap.size + 1) (by simp) (.cells #[.int .i16 a, .int .i8 b] 31))
  have HB := Aside0.mk (below_alloc (below_alloc (Below.refl w.heap.size w) (.cells (cellsK .i8 l) 29)) (.cells #[.int .i16 a, .int .i8 b] 31))
  have HS := Aside0.mk hs
  clear hs
  cases hok : okC l a b s
  all_goals
    have HOK := Aside0.mk hok
    clear hok
    go_enter Tryd.func7, Tryd.ntmps7
    go_wp2_with fail
    refine (asked_at _ _ _ l hl hw a b ha hb' s HS.out _ B0.out B1.out HOK.out).mono ?_
    rintro e w1 ⟨rfl, hb⟩
    replace B0 := Aside0.mk (blk_below B0.out hb)
    replace B1 := Aside0.mk (blk_below B1.out hb)
    replace HB := Aside0.mk (below_step HB.out hb)
    clear hb
    simp only [codeOf]
    go_wp2_with fail
  · go_ret2
    exact ⟨by unfold ltC; rw [HOK.out]; rfl, HB.out⟩
  · have HTx := Aside0.mk (okC_3 HOK.out)
    have HA := Aside0.mk (okC_a HOK.out)
    refine (l05List_calls _ l hl hw s (txt60 HTx.out) (txt_letters HTx.out) _ B0.out).mono ?_
    rintro e w3 ⟨v, rfl, ho, hb⟩
    have HO := Aside0.mk ho
    replace B1 := Aside0.mk (blk_below B1.out hb)
    replace HB := Aside0.mk (below_step HB.out hb)
    clear ho hb B0
    obtain ⟨A, c, rfl, hc, hr⟩ := Kd.R_reads HO.out
    have HR := Aside0.mk hr
    have HC := Aside0.mk hc
    clear hr hc
    have HE : Aside0 (ltC l a b s = if 8 < (strokesOf l (Pure.letters s.data.toList)).length then (0, 3) else (Pure.leastC a b (strokesOf l (Pure.letters s.data.toList)), 0)) := ⟨by unfold ltC; rw [if_pos HOK.out]⟩
    have HT : Aside0 (¬ 8 < (strokesOf l (Pure.letters s.data.toList)).length → Pure.TOk (strokesOf l (Pure.letters s.data.toList))) := ⟨tok_of hl (okC_1 HOK.out) (txt_letters HTx.out)⟩
    generalize strokesOf l (Pure.letters s.data.toList) = t at *
    by_cases h8 : 8 < t.length
    · have h8z : (8 : Int) < (t.length : Int) := by omega
      go_wp2_with fail
      go_ret2
      exact ⟨by rw [HE.out, if_pos h8]; rfl, HB.out⟩
    · have h8z : ¬ (8 : Int) < (t.length : Int) := by omega
      have HT8 := Aside0.mk (HT.out h8)
      clear HT
      go_wp2_with fail
      refine (spec_l05Least.calls 5000 _ a b A c t _ w _ ⟨B1.out, Nat.le_succ _⟩ HB.out HR.out HC.out (far_slice (IsS31.own_ne (w0 := w) ⟨B1.out, Nat.le_succ _⟩ HO.out (by decide))) (Pure.specLeast_eq a b HA.out t HT8.out)).mono ?_
      rintro e w4 ⟨rfl, hi, hb, hk⟩
      replace HB := Aside0.mk hb
      clear hb hi hk
      go_wp2_with fail
      go_ret2
      exact ⟨by rw [HE.out, if_neg h8]; rfl, HB.out⟩
set_option maxRecDepth 100000
def rng8 (l : List Int) : Bool := l.all fun n => inB n (-128) 127
theorem rng8_of {l : List Int} (h : rng8 l = true) : ∀ y ∈ l, -128 ≤ y ∧ y ≤ 127 := fun y hy => inB_iff.1 (List.all_eq_true.1 h y hy)
def impl_Strokes_each.f (a0_0 a0_1 a0_2 a0_3 a0_4 a0_5 a0_6 a0_7 a0_8 a0_9 a0_10 a0_11 a0_12 a0_13 a0_14 a0_15 a0_16 a0_17 a0_18 a0_19 a0_20 a0_21 a0_22 a0_23 a0_24 a0_25 : Int) (a1 : ByteArray) : Option (List Int) := if (rng8 [a0_0, a0_1, a0_2, a0_3, a0_4, a0_5, a0_6, a0_7, a0_8, a0_9, a0_10, a0_11, a0_12, a0_13, a0_14, a0_15, a0_16, a0_17, a0_18, a0_19, a0_20, a0_21, a0_22, a0_23, a0_24, a0_25] && txt a1.data.toList) = true then some (strokesOf [a0_0, a0_1, a0_2, a0_3, a0_4, a0_5, a0_6, a0_7, a0_8, a0_9, a0_10, a0_11, a0_12, a0_13, a0_14, a0_15, a0_16, a0_17, a0_18, a0_19, a0_20, a0_21, a0_22, a0_23, a0_24, a0_25] (Pure.letters a1.data.toList)) else none
theorem impl_Strokes_each.calls (a0_0 a0_1 a0_2 a0_3 a0_4 a0_5 a0_6 a0_7 a0_8 a0_9 a0_10 a0_11 a0_12 a0_13 a0_14 a0_15 a0_16 a0_17 a0_18 a0_19 a0_20 a0_21 a0_22 a0_23 a0_24 a0_25 : Int) (a1 : ByteArray) (r : List Int) (w : World) (hG : GlobM w) (h : impl_Strokes_each.f a0_0 a0_1 a0_2 a0_3 a0_4 a0_5 a0_6 a0_7 a0_8 a0_9 a0_10 a0_11 a0_12 a0_13 a0_14 a0_15 a0_16 a0_17 a0_18 a0_19 a0_20 a0_21 a0_22 a0_23 a0_24 a0_25 a1 = some r) :
    Calls Tryd.prog 26 #[.agg #[.int .i8 a0_0, .int .i8 a0_1, .int .i8 a0_2, .int .i8 a0_3, .int .i8 a0_4, .int .i8 a0_5, .int .i8 a0_6, .int .i8 a0_7, .int .i8 a0_8, .int .i8 a0_9, .int .i8 a0_10, .int .i8 a0_11, .int .i8 a0_12, .int .i8 a0_13, .int .i8 a0_14, .int .i8 a0_15, .int .i8 a0_16, .int .i8 a0_17, .int .i8 a0_18, .int .i8 a0_19, .int .i8 a0_20, .int .i8 a0_21, .int .i8 a0_22, .int .i8 a0_23, .int .i8 a0_24, .int .i8 a0_25], .string a1] w fun e w' => ∃ v0_ : Value, e = .returned (v0_) ∧ Kd.R (Kd.int .i64) 2 w' w.heap.size (fun _ => True) v0_ r ∧ Below w.heap.size w w' := by
  unfold impl_Strokes_each.f at h
  split at h
  · rename_i hb
    obtain rfl := Option.some.inj h
    rw [Bool.and_eq_true] at hb
    exact each_calls [a0_0, a0_1, a0_2, a0_3, a0_4, a0_5, a0_6, a0_7, a0_8, a0_9, a0_10, a0_11, a0_12, a0_13, a0_14, a0_15, a0_16, a0_17, a0_18, a0_19, a0_20, a0_21, a0_22, a0_23, a0_24, a0_25] rfl (rng8_of hb.1) a1 (txt60 hb.2) (txt_letters hb.2) w hG
  · cases h
def rngC (a b : Int) : Bool := inB a (-32768) 32767 && inB b (-128) 127
def impl_chiselCode.f (a0_0 a0_1 a0_2 a0_3 a0_4 a0_5 a0_6 a0_7 a0_8 a0_9 a0_10 a0_11 a0_12 a0_13 a0_14 a0_15 a0_16 a0_17 a0_18 a0_19 a0_20 a0_21 a0_22 a0_23 a0_24 a0_25 a1_0 a1_1 : Int) (a2 : ByteArray) : Option Int := if (rng8 [a0_0, a0_1, a0_2, a0_3, a0_4, a0_5, a0_6, a0_7, a0_8, a0_9, a0_10, a0_11, a0_12, a0_13, a0_14, a0_15, a0_16, a0_17, a0_18, a0_19, a0_20, a0_21, a0_22, a0_23, a0_24, a0_25] && rngC a1_0 a1_1) = true then some (codeOf (okC [a0_0, a0_1, a0_2, a0_3, a0_4, a0_5, a0_6, a0_7, a0_8, a0_9, a0_10, a0_11, a0_12, a0_13, a0_14, a0_15, a0_16, a0_17, a0_18, a0_19, a0_20, a0_21, a0_22, a0_23, a0_24, a0_25] a1_0 a1_1 a2)) else none
theorem impl_chiselCode.calls (a0_0 a0_1 a0_2 a0_3 a0_4 a0_5 a0_6 a0_7 a0_8 a0_9 a0_10 a0_11 a0_12 a0_13 a0_14 a0_15 a0_16 a0_17 a0_18 a0_19 a0_20 a0_21 a0_22 a0_23 a0_24 a0_25 a1_0 a1_1 : Int) (a2 : ByteArray) (r : Int) (w : World) (hG : GlobM w) (h : impl_chiselCode.f a0_0 a0_1 a0_2 a0_3 a0_4 a0_5 a0_6 a0_7 a0_8 a0_9 a0_10 a0_11 a0_12 a0_13 a0_14 a0_15 a0_16 a0_17 a0_18 a0_19 a0_20 a0_21 a0_22 a0_23 a0_24 a0_25 a1_0 a1_1 a2 = some r) :
    Calls Tryd.prog 25 #[.agg #[.int .i8 a0_0, .int .i8 a0_1, .int .i8 a0_2, .int .i8 a0_3, .int .i8 a0_4, .int .i8 a0_5, .int .i8 a0_6, .int .i8 a0_7, .int .i8 a0_8, .int .i8 a0_9, .int .i8 a0_10, .int .i8 a0_11, .int .i8 a0_12, .int .i8 a0_13, .int .i8 a0_14, .int .i8 a0_15, .int .i8 a0_16, .int .i8 a0_17, .int .i8 a0_18, .int .i8 a0_19, .int .i8 a0_20, .int .i8 a0_21, .int .i8 a0_22, .int .i8 a0_23, .int .i8 a0_24, .int .i8 a0_25], .agg #[.int .i16 a1_0, .int .i8 a1_1], .string a2] w fun e w' => e = .returned (.int .i64 r) ∧ Below w.heap.size w w' := by
  unfold impl_chiselCode.f at h
  split at h
  · rename_i hb
    obtain rfl := Option.some.inj h
    unfold rngC at hb
    rw [Bool.and_eq_true, Bool.and_eq_true] at hb
    exact chiselCode_at _ [a0_0, a0_1, a0_2, a0_3, a0_4, a0_5, a0_6, a0_7, a0_8, a0_9, a0_10, a0_11, a0_12, a0_13, a0_14, a0_15, a0_16, a0_17, a0_18, a0_19, a0_20, a0_21, a0_22, a0_23, a0_24, a0_25] rfl (rng8_of hb.1) a1_0 a1_1 (inB_iff.1 hb.2.1) (inB_iff.1 hb.2.2) a2 w hG rfl
  · cases h
def laws_toStrokes.f (a0_0 a0_1 a0_2 a0_3 a0_4 a0_5 a0_6 a0_7 a0_8 a0_9 a0_10 a0_11 a0_12 a0_13 a0_14 a0_15 a0_16 a0_17 a0_18 a0_19 a0_20 a0_21 a0_22 a0_23 a0_24 a0_25 : Int) : Option (Int × Int × Int × Int × Int × Int × Int × Int × Int × Int × Int × Int × Int × Int × Int × Int × Int × Int × Int × Int × Int × Int × Int × Int × Int × Int) := some (a0_0, a0_1, a0_2, a0_3, a0_4, a0_5, a0_6, a0_7, a0_8, a0_9, a0_10, a0_11, a0_12, a0_13, a0_14, a0_15, a0_16, a0_17, a0_18, a0_19, a0_20, a0_21, a0_22, a0_23, a0_24, a0_25)
theorem laws_toStrokes.calls (a0_0 a0_1 a0_2 a0_3 a0_4 a0_5 a0_6 a0_7 a0_8 a0_9 a0_10 a0_11 a0_12 a0_13 a0_14 a0_15 a0_16 a0_17 a0_18 a0_19 a0_20 a0_21 a0_22 a0_23 a0_24 a0_25 r1 r2 r3 r4 r5 r6 r7 r8 r9 r10 r11 r12 r13 r14 r15 r16 r17 r18 r19 r20 r21 r22 r23 r24 r25 r26 : Int) (w : World) (h : laws_toStrokes.f a0_0 a0_1 a0_2 a0_3 a0_4 a0_5 a0_6 a0_7 a0_8 a0_9 a0_10 a0_11 a0_12 a0_13 a0_14 a0_15 a0_16 a0_17 a0_18 a0_19 a0_20 a0_21 a0_22 a0_23 a0_24 a0_25 = some (r1, r2, r3, r4, r5, r6, r7, r8, r9, r10, r11, r12, r13, r14, r15, r16, r17, r18, r19, r20, r21, r22, r23, r24, r25, r26)) :
    Calls Tryd.prog 8 #[.agg #[.int .i8 a0_0, .int .i8 a0_1, .int .i8 a0_2, .int .i8 a0_3, .int .i8 a0_4, .int .i8 a0_5, .int .i8 a0_6, .int .i8 a0_7, .int .i8 a0_8, .int .i8 a0_9, .int .i8 a0_10, .int .i8 a0_11, .int .i8 a0_12, .int .i8 a0_13, .int .i8 a0_14, .int .i8 a0_15, .int .i8 a0_16, .int .i8 a0_17, .int .i8 a0_18, .int .i8 a0_19, .int .i8 a0_20, .int .i8 a0_21, .int .i8 a0_22, .int .i8 a0_23, .int .i8 a0_24, .int .i8 a0_25]] w fun e w' => e = .returned (.agg #[.int .i8 r1, .int .i8 r2, .int .i8 r3, .int .i8 r4, .int .i8 r5, .int .i8 r6, .int .i8 r7, .int .i8 r8, .int .i8 r9, .int .i8 r10, .int .i8 r11, .int .i8 r12, .int .i8 r13, .int .i8 r14, .int .i8 r15, .int .i8 r16, .int .i8 r17, .int .i8 r18, .int .i8 r19, .int .i8 r20, .int .i8 r21, .int .i8 r22, .int .i8 r23, .int .i8 r24, .int .i8 r25, .int .i8 r26]) ∧ Below w.heap.size w w' := by
  unfold laws_toStrokes.f at h
  simp only [Option.some.injEq, Prod.mk.injEq] at h
  obtain ⟨rfl, rfl, rfl, rfl, rfl, rfl, rfl, rfl, rfl, rfl, rfl, rfl, rfl, rfl, rfl, rfl, rfl, rfl, rfl, rfl, rfl, rfl, rfl, rfl, rfl, rfl⟩ := h
  exact laws_toStrokes_calls [a0_0, a0_1, a0_2, a0_3, a0_4, a0_5, a0_6, a0_7, a0_8, a0_9, a0_10, a0_11, a0_12, a0_13, a0_14, a0_15, a0_16, a0_17, a0_18, a0_19, a0_20, a0_21, a0_22, a0_23, a0_24, a0_25] rfl w
def spec_LeastTime.f (a0_0 a0_1 a0_2 a0_3 a0_4 a0_5 a0_6 a0_7 a0_8 a0_9 a0_10 a0_11 a0_12 a0_13 a0_14 a0_15 a0_16 a0_17 a0_18 a0_19 a0_20 a0_21 a0_22 a0_23 a0_24 a0_25 a1_0 a1_1 : Int) (a2 : ByteArray) : Option (Int × Int) := if (rng8 [a0_0, a0_1, a0_2, a0_3, a0_4, a0_5, a0_6, a0_7, a0_8, a0_9, a0_10, a0_11, a0_12, a0_13, a0_14, a0_15, a0_16, a0_17, a0_18, a0_19, a0_20, a0_21, a0_22, a0_23, a0_24, a0_25] && rngC a1_0 a1_1) = true ∧ a2.size ≤ 1048576 then some (ltC [a0_0, a0_1, a0_2, a0_3, a0_4, a0_5, a0_6, a0_7, a0_8, a0_9, a0_10, a0_11, a0_12, a0_13, a0_14, a0_15, a0_16, a0_17, a0_18, a0_19, a0_20, a0_21, a0_22, a0_23, a0_24, a0_25] a1_0 a1_1 a2) else none
theorem spec_LeastTime.calls (a0_0 a0_1 a0_2 a0_3 a0_4 a0_5 a0_6 a0_7 a0_8 a0_9 a0_10 a0_11 a0_12 a0_13 a0_14 a0_15 a0_16 a0_17 a0_18 a0_19 a0_20 a0_21 a0_22 a0_23 a0_24 a0_25 a1_0 a1_1 : Int) (a2 : ByteArray) (r1 r2 : Int) (w : World) (h : spec_LeastTime.f a0_0 a0_1 a0_2 a0_3 a0_4 a0_5 a0_6 a0_7 a0_8 a0_9 a0_10 a0_11 a0_12 a0_13 a0_14 a0_15 a0_16 a0_17 a0_18 a0_19 a0_20 a0_21 a0_22 a0_23 a0_24 a0_25 a1_0 a1_1 a2 = some (r1, r2)) :
    Calls Tryd.prog 7 #[.agg #[.int .i8 a0_0, .int .i8 a0_1, .int .i8 a0_2, .int .i8 a0_3, .int .i8 a0_4, .int .i8 a0_5, .int .i8 a0_6, .int .i8 a0_7, .int .i8 a0_8, .int .i8 a0_9, .int .i8 a0_10, .int .i8 a0_11, .int .i8 a0_12, .int .i8 a0_13, .int .i8 a0_14, .int .i8 a0_15, .int .i8 a0_16, .int .i8 a0_17, .int .i8 a0_18, .int .i8 a0_19, .int .i8 a0_20, .int .i8 a0_21, .int .i8 a0_22, .int .i8 a0_23, .int .i8 a0_24, .int .i8 a0_25], .agg #[.int .i16 a1_0, .int .i8 a1_1], .string a2] w fun e w' => e = .returned (.tuple #[.int .i64 r1, .int .i64 r2]) ∧ Below w.heap.size w w' := by
  unfold spec_LeastTime.f at h
  split at h
  · rename_i hb
    have h2 := Option.some.inj h
    unfold rngC at hb
    rw [Bool.and_eq_true, Bool.and_eq_true] at hb
    have := specLeast_calls [a0_0, a0_1, a0_2, a0_3, a0_4, a0_5, a0_6, a0_7, a0_8, a0_9, a0_10, a0_11, a0_12, a0_13, a0_14, a0_15, a0_16, a0_17, a0_18, a0_19, a0_20, a0_21, a0_22, a0_23, a0_24, a0_25] rfl (rng8_of hb.1.1) a1_0 a1_1 (inB_iff.1 hb.1.2.1) (inB_iff.1 hb.1.2.2) a2 hb.2 w
    rw [h2] at this
    exact this
  · cases h
end Go.Proofs.YtfnhjoemmiepiaaDoor.Ext
namespace Go.Proofs.YtfnhjoemmiepiaaDoor.Q
open Go.Proofs.YtfnhjoemmiepiaaDoor.Ext
open Go.RowKit Go.Proofs.YtfnhjoemmiepiaaDoorW.PrintWords Go.Proofs.YtfnhjoemmiepiaaDoorW.PrintLast Go.Proofs.YtfnhjoemmiepiaaDoorW.PrintMore
attribute [local go_sem] max2_int min2_int max_two min_two max_three min_three max_four min_four
set_option linter.unusedVariables false
set_option linter.unusedSimpArgs false
def impl_total.l0 : Nat → Int → List Int → Int → Int → Option (Int)
  | 0, _, _, _, _ => none
  | k + 1, x3, x6, x7, x8 => if x8 < x7 then (if 0 ≤ x8 then (if x8 < (x6.length : Int) then (impl_total.l0 k (wrap64 (x3 + (rd x6 x8))) x6 x7 (wrap64 (x8 + 1))) else (none)) else (none)) else (some x3)
def impl_total.f (k : Nat) (l0 : List Int) : Option (Int) := impl_total.l0 k 0 l0 (l0.length : Int) 0
theorem impl_total.mono_l : ∀ k, (∀ y0 y1 y2 y3, LeO (impl_total.l0 k y0 y1 y2 y3) (impl_total.l0 (k + 1) y0 y1 y2 y3))
  | 0 => fun _ _ _ _ r h => by simp [impl_total.l0] at h
  | k + 1 => by
    have ih0 := impl_total.mono_l k
    · intro y0 y1 y2 y3
      unfold impl_total.l0
      repeat' first
      | (with_reducible exact ih0 _ _ _ _)
      | (with_reducible exact LeO.refl _)
      | (with_reducible exact LeO.none _)
      | (with_reducible refine LeO.ite ?_ ?_)
      | (with_reducible refine LeO.bind ?_ (fun _ => ?_))
      | exact ih0 _ _ _ _
      | exact LeO.none _
      | refine LeO.ite ?_ ?_
      | refine LeO.bind ?_ (fun _ => ?_)
theorem impl_total.mono : ∀ a0 k, LeO (impl_total.f k a0) (impl_total.f (k + 1) a0) := by
  intro a0 k
  have ih0 := impl_total.mono_l k
  unfold impl_total.f
  repeat' first
      | (with_reducible exact ih0 _ _ _ _)
      | (with_reducible exact LeO.refl _)
      | (with_reducible exact LeO.none _)
      | (with_reducible refine LeO.ite ?_ ?_)
      | (with_reducible refine LeO.bind ?_ (fun _ => ?_))
      | exact ih0 _ _ _ _
      | exact LeO.none _
      | refine LeO.ite ?_ ?_
      | refine LeO.bind ?_ (fun _ => ?_)
set_option maxHeartbeats 8000000 in
set_option maxRecDepth 100000 in
theorem impl_total.calls (k : Nat) (A0 : Option Addr) (c0 : Nat) (l0 : List Int) (r : Int) (w : World) (hr0 : Kd.C (Kd.int .i64) w A0 l0.length l0) (hc0 : l0.length ≤ c0) (h : impl_total.f k l0 = some r) :
    Calls Tryd.prog 27 #[.slice A0 l0.length c0] w fun e w' => e = .returned (.int .i64 r) ∧ Drawn0 w w' := by
  have HR0 := Aside0.mk hr0
  have HC0 := Aside0.mk hc0
  clear hr0 hc0
  have H : (impl_total.l0 k 0 l0 (l0.length : Int) 0) = some r := h
  clear h
  have H' := Aside0.mk H
  clear H
  go_enter Tryd.func27, Tryd.ntmps27
  go_wp2
  go_loopg [3, 8] k (fun kq v3 v8 w' => ∃ (x3_1 : Int) (x8_1 : Int), v3 = .int .i64 x3_1 ∧ v8 = .int .i64 x8_1 ∧ Aside0 (impl_total.l0 kq x3_1 l0 (l0.length : Int) x8_1 = some r) ∧ Aside0 (kq ≤ k) ∧ Drawn0 w w')
  case atStart => exact ⟨(0), (0), (by first | rfl | (simp; done) | (simp [*]; done)), (by first | rfl | (simp; done) | (simp [*]; done)), H', ⟨Nat.le_refl _⟩, by repeat (first | exact Drawn0.refl _ | apply Drawn0.step)⟩
  case round =>
    clear H'
    obtain ⟨x3_1, x8_1, rfl, rfl, HA, HK1, ⟨m1, rfl⟩⟩ := hrel
    cases gk with
    | zero => exact absurd HA.out (by simp [impl_total.l0])
    | succ k1 =>
      have H := HA.out
      clear HA
      simp only [impl_total.l0] at H
      by_cases c2 : x8_1 < (l0.length : Int)
      · rw [if_pos c2] at H
        have c2b0 : decide (x8_1 < (l0.length : Int)) = true := decide_eq_true c2
        clear c2
        by_cases c3 : 0 ≤ x8_1
        · rw [if_pos c3] at H
          have c3b0 : decide (0 ≤ x8_1) = true := decide_eq_true c3
          clear c3
          by_cases c4 : x8_1 < (l0.length : Int)
          · rw [if_pos c4] at H
            have c4b0 : decide (x8_1 < (l0.length : Int)) = true := decide_eq_true c4
            clear c4
            have H' := Aside0.mk H
            clear H
            have p157 : 0 ≤ (x8_1 : Int) := of_decide_eq_true (by first | (with_reducible assumption) | assumption)
            have q157 : x8_1 < (l0.length : Int) := of_decide_eq_true (by first | (with_reducible assumption) | assumption)
            obtain ⟨ad157, e157, hx157_0⟩ := Kd.at_int HR0.out x8_1 p157 q157
            cases e157
            replace p157 := eq_true p157
            replace q157 := eq_true q157
            go_wp2
            go_roundg k1
            case measure => have := HK1.out; omega
            case rel => exact ⟨(wrap64 (x3_1 + (rd l0 x8_1))), (wrap64 (x8_1 + 1)), (by first | rfl | (simp; done) | (simp [*]; done)), (by first | rfl | (simp; done) | (simp [*]; done)), H', ⟨by have := HK1.out; omega⟩, by repeat (first | exact Drawn0.refl _ | apply Drawn0.step)⟩
          · rw [if_neg c4] at H
            exact absurd H (by simp)
        · rw [if_neg c3] at H
          exact absurd H (by simp)
      · rw [if_neg c2] at H
        have c2b0 : decide (x8_1 < (l0.length : Int)) = false := decide_eq_false c2
        clear c2
        obtain rfl := Option.some.inj H
        go_wp2
        go_ret
        exact ⟨by first | rfl | (simp; done) | (simp [*]; done), by repeat (first | exact Drawn0.refl _ | apply Drawn0.step)⟩
end Go.Proofs.YtfnhjoemmiepiaaDoor.Q
