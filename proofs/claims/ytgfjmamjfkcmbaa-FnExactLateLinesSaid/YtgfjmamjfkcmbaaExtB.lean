/- The contract of DaysFor: a predicate that captures a variable is handed to the library. -/
import Derived.Test.YtgfjmamjfkcmbaaExtA
import Derived.Test.YtgfjmamjfkcmbaaQ4
import Derived.Test.YtgfjmamjfkcmbaaQ4
namespace Go.Proofs.Ytgfjmamjfkcmbaa.Ext
open Go.RowKit Go.Proofs.Ytgfjmamjfkcmbaa.Q Go.Proofs.YtgfjmamjfkcmbaaW.PrintWords Go.Proofs.YtgfjmamjfkcmbaaW.PrintLast Go.Proofs.YtgfjmamjfkcmbaaW.PrintMore
set_option linter.unusedVariables false
set_option linter.unusedSimpArgs false

theorem pred_DaysFor (g : Nat) (day : Int) (w : World) (hg : w.heap[g]? = some (.cells #[.int .i64 day] 2 (0, 0))) : PredI 83 #[.pointer (some ⟨g, 0, none⟩)] (fun t => decide (day < t)) w := by
  intro W x hb
  have hc : W.cell? ⟨g, 0, none⟩ = some (.int .i64 day) := (blk_cell (blk_below hg hb) 0).trans rfl
  go_enter Try.func83, Try.ntmps83
  go_wp2
  go_ret
  exact ⟨rfl, hb⟩

def impl_DaysFor.f (l0 : List Int) (a1 : Int) : Option (List Int × Int × Int) :=
  (impl_timesCode.f l0 a1 100000 12).bind fun c => if c = 0 then (if l0.any (fun t => decide (a1 < t)) then some ([], 0, 6) else (impl_inOrder.f (l0.length + 1) l0 a1).bind fun out => if out.length = 0 then some (out, 0, 0) else some (out, wrap64 (rd out ((out.length - 1 : Nat) : Int) + 1), 0)) else some ([], 0, c)

set_option maxHeartbeats 1000000 in
theorem impl_DaysFor.calls (A0 : Option Addr) (c0 : Nat) (l0 : List Int) (a1 : Int) (r1 : List Int) (r2 : Int) (r3 : Int) (w : World) (hr0 : Kd.C (Kd.int .i64) w A0 l0.length l0) (hc0 : l0.length ≤ c0) (h : impl_DaysFor.f l0 a1 = some (r1, r2, r3)) :
    Calls Try.prog 39 #[.slice A0 l0.length c0, .int .i64 a1] w fun e w' => ∃ v0_ : Value, e = .returned (.tuple #[v0_, .int .i64 r2, .int .i64 r3]) ∧ Kd.R (Kd.int .i64) 2 w' w.heap.size (fun _ => True) v0_ r1 ∧ Below w.heap.size w w' := by
  have HR := Aside0.mk hr0
  have HC := Aside0.mk hc0
  clear hr0 hc0
  unfold impl_DaysFor.f at h
  obtain ⟨c, hcode, h⟩ := Option.bind_eq_some_iff.mp h
  have HCode := Aside0.mk hcode
  clear hcode
  by_cases hz : c = 0
  · subst hz
    rw [if_pos rfl] at h
    have H := Aside0.mk h
    clear h
    go_enter Try.func39, Try.ntmps39
    go_wp2_with fail
    refine (impl_timesCode.calls A0 c0 l0 a1 100000 12 0 _ (Kd.C_alloc HR.out _) HC.out HCode.out).mono ?_
    rintro e w1 ⟨rfl, hb⟩
    have B1 := Aside0.mk (blk_below (blk_new w (.cells #[.int .i64 a1] 2)) hb)
    have HB := Aside0.mk (below_step (below_alloc (Below.refl _ _) _) hb)
    clear hb
    have hcell : w1.cell? ⟨w.heap.size, 0, none⟩ = some (.int .i64 a1) := (blk_cell B1.out 0).trans rfl
    go_wp2_with fail
    refine (containsFunc_calls _ _ _ (enters_of Try.func83 (by kernel_rfl) rfl) _ _ _ _ (pred_DaysFor _ a1 _ B1.out) (Kd.C_below HR.out HB.out)).mono ?_
    rintro e w2 ⟨rfl, hb⟩
    replace B1 := Aside0.mk (blk_below B1.out hb)
    replace HB := Aside0.mk (below_step HB.out hb)
    clear hb hcell
    have hcell : w2.cell? ⟨w.heap.size, 0, none⟩ = some (.int .i64 a1) := (blk_cell B1.out 0).trans rfl
    have h := H.out
    clear H
    cases hany : l0.any (fun t => decide (a1 < t)) with
    | true =>
      rw [hany, if_pos rfl] at h
      injection h with h
      injection h with h1 h
      injection h with h2 h3
      subst h1 h2 h3
      go_wp2_with fail
      go_ret3
      exact ⟨_, rfl, Kd.R_nil _ _ _ _ _, HB.out⟩
    | false =>
      rw [hany, if_neg (by decide)] at h
      obtain ⟨out, hout, h⟩ := Option.bind_eq_some_iff.mp h
      have H := Aside0.mk h
      have HO := Aside0.mk hout
      clear h hout
      go_wp2_with fail
      refine (impl_inOrder.calls _ A0 c0 l0 a1 out _ (Kd.C_below HR.out HB.out) HC.out HO.out).mono ?_
      rintro e w3 ⟨v, rfl, hR, hb⟩
      have HRow := Aside0.mk (Kd.R_lower hR HB.out.size)
      replace HB := Aside0.mk (below_step HB.out hb)
      clear hR hb hcell
      obtain ⟨Ao, co, rfl⟩ := Kd.R_slice HRow.out
      have h := H.out
      clear H HO
      by_cases h0 : out.length = 0
      · rw [if_pos h0] at h
        injection h with h
        injection h with h1 h
        injection h with h2 h3
        subst h1 h2 h3
        have hz1 : ((out.length : Int) == 0) = true := beq_iff_eq.2 (by omega)
        have hz2 : (out.length == 0) = true := beq_iff_eq.2 h0
        clear h0
        go_wp2
        go_ret3
        exact ⟨_, rfl, (by (with_reducible repeat (first | apply Kd.R_alloc | apply Kd.R_drewN | apply Kd.R_drew)); exact HRow.out), (by repeat (first | (with_reducible first | exact HB.out | apply below_alloc | apply pw_below_drewN | apply below_drew1) | exact HB.out))⟩
      · rw [if_neg h0] at h
        injection h with h
        injection h with h1 h
        injection h with h2 h3
        subst h1 h2 h3
        have hz1 : ((out.length : Int) == 0) = false := beq_eq_false_iff_ne.2 (by omega)
        have hz2 : (out.length == 0) = false := beq_eq_false_iff_ne.2 h0
        obtain ⟨ad, e, hc⟩ := Kd.at_int (Kd.R_reads' HRow.out).2.2 ((out.length - 1 : Nat) : Int) (by omega) (by omega)
        subst e
        rw [Int.toNat_natCast] at hc
        have hm := (Kd.R_reads' HRow.out).2.2.2.1
        obtain ⟨y, hy⟩ : ∃ y, y = rd out ((out.length - 1 : Nat) : Int) := ⟨_, rfl⟩
        rw [← hy] at hc
        have HY := Aside0.mk hy
        clear hy
        have e1 : ((out.length : Int) - 1).toNat = out.length - 1 := by omega
        have p1 : 0 ≤ (out.length : Int) - 1 := by omega
        have p2 : (out.length : Int) - 1 < out.length := by omega
        go_wp2
        go_quiet (fail)
        go_wp2
        go_ret3
        rw [← HY.out]
        exact ⟨_, rfl, (by (with_reducible repeat (first | apply Kd.R_alloc | apply Kd.R_drewN | apply Kd.R_drew)); exact HRow.out), (by repeat (first | (with_reducible first | exact HB.out | apply below_alloc | apply pw_below_drewN | apply below_drew1) | exact HB.out))⟩
  · rw [if_neg hz] at h
    have hne : (c == 0) = false := by simpa using hz
    have hne2 : (c != 0) = true := by simpa using hz
    injection h with h
    injection h with h1 h
    injection h with h2 h3
    subst h1 h2 h3
    go_enter Try.func39, Try.ntmps39
    go_wp2_with fail
    refine (impl_timesCode.calls A0 c0 l0 a1 100000 12 c _ (Kd.C_alloc HR.out _) HC.out HCode.out).mono ?_
    rintro e w1 ⟨rfl, hb⟩
    have HB := Aside0.mk (below_step (below_alloc (Below.refl _ _) _) hb)
    clear hb
    go_wp2_with fail
    go_ret3
    exact ⟨_, rfl, Kd.R_nil _ _ _ _ _, HB.out⟩
end Go.Proofs.Ytgfjmamjfkcmbaa.Ext
