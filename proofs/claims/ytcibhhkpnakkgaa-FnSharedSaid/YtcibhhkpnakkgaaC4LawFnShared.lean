/- Contracts and plain laws of functions of the given program; no conditions beside those in the theorems. -/
import Derived.Test.YtcibhhkpnakkgaaC3LawFnShared
import Derived.Deep.DeepCutAuto
import Derived.Test.YtcibhhkpnakkgaaC2LawFnShared
namespace Go.Proofs.Ytcibhhkpnakkgaa.Ext
open Go.RowKit Go.Proofs.Ytcibhhkpnakkgaa.Q Go.Proofs.Ytcibhhkpnakkgaa.Pure Go.Proofs.YtcibhhkpnakkgaaW.PrintWords Go.Proofs.YtcibhhkpnakkgaaW.PrintLast Go.Proofs.YtcibhhkpnakkgaaW.PrintMore
set_option linter.unusedVariables false
set_option linter.unusedSimpArgs false
theorem run_mk {P : Program} (t e : TypeId) (z : Value) (sz bytes : Nat) (ht : P.underlying t = some (.slice e)) (hinfo : (P.info? e).map (fun i => (i.zero, i.size, i.bytes)) = some (some z, sz, bytes)) (hb0 : 0 < bytes) (m : Nat) (hl : m * bytes ≤ 281474976710656) :
    ∀ W : World, (Instr.makeSlice t (.int .i64 (m : Int)) (.int .i64 (m : Int))).run P W = .ok (.slice (some ⟨W.heap.size, 0, none⟩) m m) (W.alloc (.cells (madeCells z.cells (m * sz)) e)) := by
  intro W
  obtain ⟨i0, hi, hzz⟩ := Option.map_eq_some_iff.1 hinfo
  simp only [Prod.mk.injEq] at hzz
  obtain ⟨hz0, hz1, hz2⟩ := hzz
  have hm : m ≤ 281474976710656 := Nat.le_trans (Nat.le_mul_of_pos_right _ hb0) hl
  have hr := run_make (P := P) W t e i0 z ht hi hz0 .i64 .i64 (m : Int) (m : Int) (by omega) (by omega)
    (by
      have h3 : ((i0.bytes * m : Nat) : Int) ≤ 281474976710656 := by rw [hz2, Nat.mul_comm]; omega
      rwa [Int.natCast_mul] at h3) (by omega)
  simp only [Int.toNat_natCast] at hr
  rw [hz1] at hr
  exact hr
theorem exec_mk {P : Program} {o : Oper} {a : Act} (t e : TypeId) (x : Operand) (ho : o.op = .makeSlice t x x) (m : Nat) (hx : a.eval x = .int .i64 (m : Int)) (z : Value) (sz bytes : Nat) (ht : P.underlying t = some (.slice e)) (hinfo : (P.info? e).map (fun i => (i.zero, i.size, i.bytes)) = some (some z, sz, bytes)) (hb0 : 0 < bytes) (hl : m * bytes ≤ 281474976710656) (W : World) :
    (execOp a.eval o).run P W = .ok (.value (.slice (some ⟨W.heap.size, 0, none⟩) m m)) (W.alloc (.cells (madeCells z.cells (m * sz)) e)) := by
  have h := run_mk t e z sz bytes ht hinfo hb0 m hl W
  unfold execOp
  rw [ho]
  simp only [hx]
  first
  | exact h
  | (simp [h]; done)
  | (go_simp; simp [h]; done)
set_option maxHeartbeats 40000000 in
set_option maxRecDepth 100000 in
theorem shared_calls (A0 A1 : Option Addr) (c0 c1 : Nat) (l0 l1 : List Int) (w : World)
    (hr0 : Kd.C (Kd.int .u8) w A0 l0.length l0) (hc0 : l0.length ≤ c0) (hr1 : Kd.C (Kd.int .u8) w A1 l1.length l1) (hc1 : l1.length ≤ c1) (hy0 : byB l0) (hy1 : byB l1) :
    Calls Try.prog 3 #[.slice A0 l0.length c0, .slice A1 l1.length c1] w fun e w' => e = .returned (.bool true) ∧ Below w.heap.size w w' := by
  have HR0 := Aside0.mk hr0
  have HC0 := Aside0.mk hc0
  have HR1 := Aside0.mk hr1
  have HC1 := Aside0.mk hc1
  have HY1 := Aside0.mk hy1
  obtain ⟨T, ht1, ht2, ht3⟩ := times_ok l0 hy0
  have HT1 := Aside0.mk ht1
  have HT2 := Aside0.mk ht2
  have HT3 := Aside0.mk ht3
  have ha2 : laws_a2Long.f l0 l1 = some (decide ((l0.length : Int) > 3000) || decide ((l1.length : Int) > 3000)) := by
    unfold laws_a2Long.f
    by_cases h : (l0.length : Int) > 3000
    · rw [if_pos h, decide_eq_true h]; rfl
    · rw [if_neg h, decide_eq_false h]; rfl
  generalize (decide ((l0.length : Int) > 3000) || decide ((l1.length : Int) > 3000)) = lg at ha2
  have HA2 := Aside0.mk ha2
  clear hr0 hc0 hr1 hc1 hy0 hy1 ht1 ht2 ht3 ha2
  go_enter Try.func3, Try.ntmps3
  go_wp2_with fail
  refine (laws_a2Long.calls A0 c0 l0 A1 c1 l1 lg w HR0.out HC0.out HR1.out HC1.out HA2.out).mono ?_
  rintro e w1 ⟨rfl, hd1⟩
  have HX1 := Aside0.mk (show Below w.heap.size w w1 from hd1.below)
  clear hd1
  cases lg with
  | true =>
    go_wp2_with fail
    go_ret
    exact ⟨rfl, HX1.out⟩
  | false =>
    go_wp2_with fail
    refine (spec_A2Times.calls 11 A0 c0 l0 T w1 (Kd.C_below HR0.out HX1.out) HC0.out (HT3.out 11 (by omega))).mono ?_
    rintro e w2 ⟨v2, rfl, ho2, hb2⟩
    obtain ⟨At, ct, rfl⟩ := Kd.R_slice ho2
    have HX2 := Aside0.mk (below_step HX1.out hb2)
    have CT2 := Aside0.mk (Kd.R_reads' ho2).2.2
    have HCT := Aside0.mk (Kd.R_reads' ho2).2.1
    clear hb2 ho2 HX1
    go_wp2_with fail
    obtain ⟨r3, cut, ea, hcw, hcu⟩ := at_cut l1 HY1.out
    have HCU := Aside0.mk hcu
    have HCW := Aside0.mk hcw
    refine (laws_a2At.calls A1 c1 l1 0 4 r3 w2 (Kd.C_below HR1.out HX2.out) HC1.out ea).mono ?_
    rintro e w3 ⟨rfl, hd3⟩
    have HX3 := Aside0.mk (below_step HX2.out hd3.below)
    have CT3 := Aside0.mk (Kd.C_below CT2.out hd3.below)
    clear hd3 HX2 CT2 ea hcu
    go_wp2_with fail
    clear hcw
    obtain ⟨r4, day, ea, hdw, hdy⟩ := at_day l1 HY1.out
    have HDY := Aside0.mk hdy
    have HDW := Aside0.mk hdw
    refine (laws_a2At.calls A1 c1 l1 1 60 r4 w3 (Kd.C_below HR1.out HX3.out) HC1.out ea).mono ?_
    rintro e w4 ⟨rfl, hd4⟩
    have HX4 := Aside0.mk (below_step HX3.out hd4.below)
    have CT4 := Aside0.mk (Kd.C_below CT3.out hd4.below)
    clear hd4 HX3 CT3 ea hdy
    have HTB := Aside0.mk (timesB_of HT2.out)
    obtain ⟨K1, X1, M1, s1, f1, g1⟩ := lines_ex T cut HTB.out HT1.out HCU.out.1 (by have := HCU.out; omega)
    obtain ⟨K2, X2, M2, s2, f2, g2⟩ := any_ex T cut HTB.out HT1.out HCU.out.1 (by have := HCU.out; omega)
    obtain ⟨K3, X3, N3, s3, f3, g3⟩ := days_ex T day HT2.out HT1.out HDY.out.1 (by have := HDY.out; omega)
    have S1 := Aside0.mk s1
    have S2 := Aside0.mk s2
    have S3 := Aside0.mk s3
    have F1 := Aside0.mk f1
    have F2 := Aside0.mk f2
    have F3 := Aside0.mk f3
    have G1 := Aside0.mk g1
    have G2 := Aside0.mk g2
    have G3 := Aside0.mk g3
    clear s1 s2 s3 f1 f2 f3 g1 g2 g3
    go_wp2_with fail
    clear hdw
    rw [HCW.out, HDW.out]
    clear HCW HDW
    refine (impl_ShareLines.calls K1 At ct T cut X1 M1 0 w4 CT4.out HCT.out F1.out).mono ?_
    rintro e w5 ⟨v5, rfl, ho, hb⟩
    obtain ⟨Am5, cm5, rfl⟩ := Kd.R_slice ho
    have HX5 := Aside0.mk (below_step HX4.out hb)
    have CT5 := Aside0.mk (Kd.C_below CT4.out hb)
    have CL5 := Aside0.mk (Kd.R_reads' ho).2.2
    have HCL5 := Aside0.mk (Kd.R_reads' ho).2.1
    clear ho hb HX4 CT4
    go_wp2_with fail
    refine (spec_ShareLines.calls K1 At ct T cut X1 M1 0 w5 CT5.out HCT.out G1.out).mono ?_
    rintro e w6 ⟨v6, rfl, ho, hb⟩
    obtain ⟨Am6, cm6, rfl⟩ := Kd.R_slice ho
    have HX6 := Aside0.mk (below_step HX5.out hb)
    have CT6 := Aside0.mk (Kd.C_below CT5.out hb)
    replace CL5 := Aside0.mk (Kd.C_below CL5.out hb)
    have CL6 := Aside0.mk (Kd.R_reads' ho).2.2
    have HCL6 := Aside0.mk (Kd.R_reads' ho).2.1
    clear ho hb HX5 CT5
    go_wp2_with fail
    refine (impl_ShareAny.calls At ct T cut X2 M2 0 w6 CT6.out HCT.out F2.out).mono ?_
    rintro e w7 ⟨v7, rfl, ho, hb⟩
    obtain ⟨Am7, cm7, rfl⟩ := Kd.R_slice ho
    have HX7 := Aside0.mk (below_step HX6.out hb)
    have CT7 := Aside0.mk (Kd.C_below CT6.out hb)
    replace CL5 := Aside0.mk (Kd.C_below CL5.out hb)
    replace CL6 := Aside0.mk (Kd.C_below CL6.out hb)
    have CL7 := Aside0.mk (Kd.R_reads' ho).2.2
    have HCL7 := Aside0.mk (Kd.R_reads' ho).2.1
    clear ho hb HX6 CT6
    go_wp2_with fail
    refine (spec_ShareAny.calls K2 At ct T cut X2 M2 0 w7 CT7.out HCT.out G2.out).mono ?_
    rintro e w8 ⟨v8, rfl, ho, hb⟩
    obtain ⟨Am8, cm8, rfl⟩ := Kd.R_slice ho
    have HX8 := Aside0.mk (below_step HX7.out hb)
    have CT8 := Aside0.mk (Kd.C_below CT7.out hb)
    replace CL5 := Aside0.mk (Kd.C_below CL5.out hb)
    replace CL6 := Aside0.mk (Kd.C_below CL6.out hb)
    replace CL7 := Aside0.mk (Kd.C_below CL7.out hb)
    have CL8 := Aside0.mk (Kd.R_reads' ho).2.2
    have HCL8 := Aside0.mk (Kd.R_reads' ho).2.1
    clear ho hb HX7 CT7
    go_wp2_with fail
    refine (impl_DaysFor.calls At ct T day X3 N3 0 w8 CT8.out HCT.out F3.out).mono ?_
    rintro e w9 ⟨v9, rfl, ho, hb⟩
    obtain ⟨Am9, cm9, rfl⟩ := Kd.R_slice ho
    have HX9 := Aside0.mk (below_step HX8.out hb)
    have CT9 := Aside0.mk (Kd.C_below CT8.out hb)
    replace CL5 := Aside0.mk (Kd.C_below CL5.out hb)
    replace CL6 := Aside0.mk (Kd.C_below CL6.out hb)
    replace CL7 := Aside0.mk (Kd.C_below CL7.out hb)
    replace CL8 := Aside0.mk (Kd.C_below CL8.out hb)
    have CL9 := Aside0.mk (Kd.R_reads' ho).2.2
    have HCL9 := Aside0.mk (Kd.R_reads' ho).2.1
    clear ho hb HX8 CT8
    go_wp2_with fail
    refine (spec_DaysFor.calls K3 At ct T day X3 N3 0 w9 CT9.out HCT.out G3.out).mono ?_
    rintro e w10 ⟨v10, rfl, ho, hb⟩
    obtain ⟨Am10, cm10, rfl⟩ := Kd.R_slice ho
    have HX10 := Aside0.mk (below_step HX9.out hb)
    have CT10 := Aside0.mk (Kd.C_below CT9.out hb)
    replace CL5 := Aside0.mk (Kd.C_below CL5.out hb)
    replace CL6 := Aside0.mk (Kd.C_below CL6.out hb)
    replace CL7 := Aside0.mk (Kd.C_below CL7.out hb)
    replace CL8 := Aside0.mk (Kd.C_below CL8.out hb)
    replace CL9 := Aside0.mk (Kd.C_below CL9.out hb)
    have CL10 := Aside0.mk (Kd.R_reads' ho).2.2
    have HCL10 := Aside0.mk (Kd.R_reads' ho).2.1
    clear ho hb HX9 CT9
    go_wp2_with fail
    have h11 : ((X1.length : Int) != (T.length : Int)) = false := bne_eq_false_iff_eq.2 (by rw [S1.out.len])
    have h12 : ((X2.length : Int) != (T.length : Int)) = false := bne_eq_false_iff_eq.2 (by rw [S2.out.len])
    have h13 : ((X3.length : Int) != (T.length : Int)) = false := bne_eq_false_iff_eq.2 (by rw [S3.out.len])
    have h21 : M2 ≤ M1 := S2.out.least X1 M1 rfl S1.out.len S1.out.mem (fun k _ => S1.out.most k) S1.out.v0
    have h22 : decide (M1 < M2) = false := decide_eq_false (by omega)
    have h23 : (M1 == 0) = ((T.length : Int) == 0) := by
      rw [Bool.eq_iff_iff, beq_iff_eq, beq_iff_eq, S1.out.zero]
      constructor
      · intro h; rw [h]; rfl
      · intro h; exact List.eq_nil_of_length_eq_zero (by omega)
    obtain ⟨Ks, hsm⟩ : ∃ K, spec_A2Same.f K X1 X1 = some true := ⟨X1.length + 1, same_ok X1 (by have := S1.out.len; have := S2.out.len; have := S3.out.len; have := HT1.out; omega) (by omega)⟩
    refine (spec_A2Same.calls Ks Am5 cm5 X1 Am6 cm6 X1 true w10 CL5.out HCL5.out CL6.out HCL6.out hsm).mono ?_
    rintro e w11 ⟨rfl, hd⟩
    have HX11 := Aside0.mk (below_step HX10.out hd.below)
    have CT11 := Aside0.mk (Kd.C_below CT10.out hd.below)
    replace CL5 := Aside0.mk (Kd.C_below CL5.out hd.below)
    replace CL6 := Aside0.mk (Kd.C_below CL6.out hd.below)
    replace CL7 := Aside0.mk (Kd.C_below CL7.out hd.below)
    replace CL8 := Aside0.mk (Kd.C_below CL8.out hd.below)
    replace CL9 := Aside0.mk (Kd.C_below CL9.out hd.below)
    replace CL10 := Aside0.mk (Kd.C_below CL10.out hd.below)
    clear hd hsm HX10 CT10
    go_wp2_with fail
    obtain ⟨Ks, hsm⟩ : ∃ K, spec_A2Same.f K X2 X2 = some true := ⟨X2.length + 1, same_ok X2 (by have := S1.out.len; have := S2.out.len; have := S3.out.len; have := HT1.out; omega) (by omega)⟩
    refine (spec_A2Same.calls Ks Am7 cm7 X2 Am8 cm8 X2 true w11 CL7.out HCL7.out CL8.out HCL8.out hsm).mono ?_
    rintro e w12 ⟨rfl, hd⟩
    have HX12 := Aside0.mk (below_step HX11.out hd.below)
    have CT12 := Aside0.mk (Kd.C_below CT11.out hd.below)
    replace CL5 := Aside0.mk (Kd.C_below CL5.out hd.below)
    replace CL6 := Aside0.mk (Kd.C_below CL6.out hd.below)
    replace CL7 := Aside0.mk (Kd.C_below CL7.out hd.below)
    replace CL8 := Aside0.mk (Kd.C_below CL8.out hd.below)
    replace CL9 := Aside0.mk (Kd.C_below CL9.out hd.below)
    replace CL10 := Aside0.mk (Kd.C_below CL10.out hd.below)
    clear hd hsm HX11 CT11
    go_wp2_with fail
    obtain ⟨Ks, hsm⟩ : ∃ K, spec_A2Same.f K X3 X3 = some true := ⟨X3.length + 1, same_ok X3 (by have := S1.out.len; have := S2.out.len; have := S3.out.len; have := HT1.out; omega) (by omega)⟩
    refine (spec_A2Same.calls Ks Am9 cm9 X3 Am10 cm10 X3 true w12 CL9.out HCL9.out CL10.out HCL10.out hsm).mono ?_
    rintro e w13 ⟨rfl, hd⟩
    have HX13 := Aside0.mk (below_step HX12.out hd.below)
    have CT13 := Aside0.mk (Kd.C_below CT12.out hd.below)
    replace CL5 := Aside0.mk (Kd.C_below CL5.out hd.below)
    replace CL6 := Aside0.mk (Kd.C_below CL6.out hd.below)
    replace CL7 := Aside0.mk (Kd.C_below CL7.out hd.below)
    replace CL8 := Aside0.mk (Kd.C_below CL8.out hd.below)
    replace CL9 := Aside0.mk (Kd.C_below CL9.out hd.below)
    replace CL10 := Aside0.mk (Kd.C_below CL10.out hd.below)
    clear hd hsm HX12 CT12
    have htw : wrap64 ((T.length : Int) + 1) = ((T.length + 1 : Nat) : Int) := by have := HT1.out; unfold wrap64; omega
    go_wp2_with (first | ((with_reducible refine gate_dst (N := 202) rfl ?_); refine Kd.event_run rfl (exec_mk 24 2 (.tmp 201) rfl (cut) ?hx (.int .i64 0) 1 8 Try.underlying24 info_i64 (by omega) (by have := HCU.out; have := HT1.out; omega) _) ?_; (case hx => first | (go_simp; done) | (go_simp; rfl))) | ((with_reducible refine gate_dst (N := 204) rfl ?_); refine Kd.event_run rfl (exec_mk 24 2 (.tmp 203) rfl (cut) ?hx (.int .i64 0) 1 8 Try.underlying24 info_i64 (by omega) (by have := HCU.out; have := HT1.out; omega) _) ?_; (case hx => first | (go_simp; done) | (go_simp; rfl))) | ((with_reducible refine gate_dst (N := 208) rfl ?_); refine Kd.event_run rfl (exec_mk 24 2 (.tmp 207) rfl (T.length + 1) ?hx (.int .i64 0) 1 8 Try.underlying24 info_i64 (by omega) (by have := HCU.out; have := HT1.out; omega) _) ?_; (case hx => first | (go_simp; done) | (go_simp; rfl))) | ((with_reducible refine gate_dst (N := 210) rfl ?_); refine Kd.event_run rfl (exec_mk 24 2 (.tmp 209) rfl (cut) ?hx (.int .i64 0) 1 8 Try.underlying24 info_i64 (by omega) (by have := HCU.out; have := HT1.out; omega) _) ?_; (case hx => first | (go_simp; done) | (go_simp; rfl))))
    have K0 : Aside0 (RowAt ((((w13.alloc (.cells (madeCells #[.int .i64 0] cut) 2 (0, 0))).alloc (.cells (madeCells #[.int .i64 0] cut) 2 (0, 0))).alloc (.cells (madeCells #[.int .i64 0] (T.length + 1)) 2 (0, 0))).alloc (.cells (madeCells #[.int .i64 0] cut) 2 (0, 0))) w13.heap.size cut (fun _ => 0)) := ⟨by unfold RowAt; rw [← rowI_zero]; exact blk_alloc (blk_alloc (blk_alloc (blk_new w13 _) _) _) _⟩
    have K1 : Aside0 (RowAt ((((w13.alloc (.cells (madeCells #[.int .i64 0] cut) 2 (0, 0))).alloc (.cells (madeCells #[.int .i64 0] cut) 2 (0, 0))).alloc (.cells (madeCells #[.int .i64 0] (T.length + 1)) 2 (0, 0))).alloc (.cells (madeCells #[.int .i64 0] cut) 2 (0, 0))) (w13.heap.size + 1) cut (fun _ => 0)) := ⟨by unfold RowAt; rw [← rowI_zero]; exact blk_alloc (blk_alloc (blk_newAt (by rw [World.size_alloc]) _) _) _⟩
    have K2 : Aside0 (RowAt ((((w13.alloc (.cells (madeCells #[.int .i64 0] cut) 2 (0, 0))).alloc (.cells (madeCells #[.int .i64 0] cut) 2 (0, 0))).alloc (.cells (madeCells #[.int .i64 0] (T.length + 1)) 2 (0, 0))).alloc (.cells (madeCells #[.int .i64 0] cut) 2 (0, 0))) (w13.heap.size + 1 + 1) (T.length + 1) (fun _ => 0)) := ⟨by unfold RowAt; rw [← rowI_zero]; exact blk_alloc (blk_newAt (by rw [World.size_alloc, World.size_alloc]) _) _⟩
    have K3 : Aside0 (RowAt ((((w13.alloc (.cells (madeCells #[.int .i64 0] cut) 2 (0, 0))).alloc (.cells (madeCells #[.int .i64 0] cut) 2 (0, 0))).alloc (.cells (madeCells #[.int .i64 0] (T.length + 1)) 2 (0, 0))).alloc (.cells (madeCells #[.int .i64 0] cut) 2 (0, 0))) (w13.heap.size + 1 + 1 + 1) cut (fun _ => 0)) := ⟨by unfold RowAt; rw [← rowI_zero]; exact blk_newAt (by rw [World.size_alloc, World.size_alloc, World.size_alloc]) _⟩
    have KX := Aside0.mk (below_alloc (below_alloc (below_alloc (below_alloc (Below.refl w13.heap.size w13) (.cells (madeCells #[.int .i64 0] cut) 2 (0, 0))) (.cells (madeCells #[.int .i64 0] cut) 2 (0, 0))) (.cells (madeCells #[.int .i64 0] (T.length + 1)) 2 (0, 0))) (.cells (madeCells #[.int .i64 0] cut) 2 (0, 0)))
    have KG : Aside0 (w13.heap.size ≤ w13.heap.size ∧ w13.heap.size < w13.heap.size + 1 ∧ w13.heap.size + 1 < w13.heap.size + 1 + 1 ∧ w13.heap.size + 1 + 1 < w13.heap.size + 1 + 1 + 1) := ⟨by omega⟩
    revert K0 K1 K2 K3 KX KG
    generalize ((((w13.alloc (Obj.cells (madeCells #[Value.int .i64 0] cut) 2)).alloc (Obj.cells (madeCells #[Value.int .i64 0] cut) 2)).alloc (Obj.cells (madeCells #[Value.int .i64 0] (T.length + 1)) 2)).alloc (Obj.cells (madeCells #[Value.int .i64 0] cut) 2)) = wc
    generalize w13.heap.size + 1 + 1 + 1 = g4
    generalize w13.heap.size + 1 + 1 = g3
    generalize w13.heap.size + 1 = g2
    intro K0 K1 K2 K3 KX KG
    clear h11 h12 h13 h21 h22 h23 htw
    generalize hg1 : w13.heap.size = g1 at K0 KG ⊢
    replace KG : Aside0 (w13.heap.size ≤ g1 ∧ g1 < g2 ∧ g2 < g3 ∧ g3 < g4) := ⟨by have := KG.out; omega⟩
    clear hg1
    go_loopg [26, 27, 32] T.length (fun gg v26 v27 v32 wr => ∃ (i : Nat) (mx : Int), i ≤ T.length ∧ T.length - i ≤ gg ∧ v26 = .int .i64 (sumL (T.take i)) ∧ v27 = .int .i64 mx ∧ v32 = .int .i64 i ∧ 0 ≤ mx ∧ mx ≤ 40 ∧ mx ≤ M2 ∧ Aside0 (Below w13.heap.size w13 wr) ∧ Aside0 (RowAt wr g1 cut (finF (T.take i) (X1.take i) (fun _ => 0))) ∧ Aside0 (RowAt wr g2 cut (finF (T.take i) (X2.take i) (fun _ => 0))) ∧ Aside0 (RowAt wr g3 (T.length + 1) (finF (T.take i) (X3.take i) (fun _ => 0))) ∧ Aside0 (RowAt wr g4 cut (finF (T.take i) ((ownL l1 cut T.length).take i) (fun _ => 0))))
    case atStart => exact ⟨0, 0, Nat.zero_le _, by omega, rfl, rfl, rfl, by omega, by omega, S2.out.v0, KX, K0, K1, K2, K3⟩
    case round => as_aux_lemma =>
      clear K0 K1 K2 K3 KX
      obtain ⟨i, mx, hi, hgi, rfl, rfl, rfl, hm0, hm1, hm2, HX, R1, R2, R3, R4⟩ := hrel
      by_cases hlt : i < T.length
      · have hltz : (i : Int) < (T.length : Int) := by omega
        have hl1 := S1.out.len
        have hl2 := S2.out.len
        have hl3 := S3.out.len
        obtain ⟨p1a, p1b⟩ := S1.out.mem _ (rd_mem2 X1 i (by omega))
        obtain ⟨p2a, p2b⟩ := S2.out.mem _ (rd_mem2 X2 i (by omega))
        obtain ⟨p3a, p3b⟩ := S3.out.mem _ (rd_mem2 X3 i (by omega))
        obtain ⟨pta, ptb⟩ := HT2.out _ (rd_mem2 T i hlt)
        have ptl := S2.out.long _ (rd_mem2 T i hlt)
        obtain ⟨poa, pob⟩ := ownL_mem HY1.out HCU.out.1 T.length _ (rd_mem2 (ownL l1 cut T.length) i (by rw [ownL_len]; exact hlt))
        have HS1 := Aside0.mk (finF_step T X1 (fun _ => 0) i hlt hl1)
        have HS2 := Aside0.mk (finF_step T X2 (fun _ => 0) i hlt hl2)
        have HS3 := Aside0.mk (finF_step T X3 (fun _ => 0) i hlt hl3)
        have HS4 := Aside0.mk (finF_step T (ownL l1 cut T.length) (fun _ => 0) i hlt (ownL_len _ _ _))
        have HSM := Aside0.mk (sumL_take T i hlt)
        obtain ⟨ps0, ps1⟩ := sum_bd0 (T.take i) (fun y hy => HT2.out y (List.mem_of_mem_take hy))
        have ps2 : sumL (T.take i) ≤ 240 := by have := HT1.out; simp only [List.length_take] at ps1; omega
        have HEO := Aside0.mk (ownL_rd l1 cut hlt)
        have hpN : N3 ≤ 6 := by have := S3.out.n0; have := HT1.out; omega
        have p3c : rd X3 (i : Int) < (T.length : Int) + 1 := by have := S3.out.n0; omega
        obtain ⟨ad0, e0, q0⟩ := at_nat CT13.out hlt
        obtain ⟨ad1, e1, q1⟩ := at_nat CL6.out (i := i) (by omega)
        obtain ⟨ad2, e2, q2⟩ := at_nat CL8.out (i := i) (by omega)
        obtain ⟨ad3, e3, q3⟩ := at_nat CL10.out (i := i) (by omega)
        subst e0 e1 e2 e3
        have HPR : Aside0 (0 < i → ∃ y1 y3 : Int, wr.cell? (ad1.add (i - 1)) = some (.int .i64 y1) ∧ wr.cell? (ad3.add (i - 1)) = some (.int .i64 y3) ∧ y1 ≤ rd X1 (i : Int) ∧ 0 ≤ y3 ∧ y3 ≤ 6 ∧ (rd X3 (i : Int) = y3 ∨ rd X3 (i : Int) = y3 + 1)) := ⟨fun h0 => by
          obtain ⟨p, rfl⟩ : ∃ p, i = p + 1 := ⟨i - 1, by omega⟩
          obtain ⟨b1, f1, u1⟩ := at_nat (Kd.C_below CL6.out HX.out) (i := p) (by omega)
          obtain ⟨b3, f3, u3⟩ := at_nat (Kd.C_below CL10.out HX.out) (i := p) (by omega)
          cases f1
          cases f3
          have := S3.out.mem _ (rd_mem2 X3 p (by omega))
          exact ⟨_, _, u1, u3, S1.out.rise rfl p (by omega), this.1, by omega, S3.out.adj p (by omega)⟩⟩
        have j1 : i < X1.length := by omega
        have j2 : i < X2.length := by omega
        have j3 : i < X3.length := by omega
        have HL1 := Aside0.mk hl1
        have HL2 := Aside0.mk hl2
        have HL3 := Aside0.mk hl3
        clear hl1 hl2 hl3 ps1
        generalize rd X1 (i : Int) = x1 at p1a p1b HS1 q1 HPR
        generalize rd X2 (i : Int) = x2 at p2a p2b HS2 q2
        generalize rd X3 (i : Int) = x3 at p3a p3b p3c HS3 q3 HPR
        generalize rd T (i : Int) = t at pta ptb ptl HS1 HS2 HS3 HS4 HSM q0
        generalize rd (ownL l1 cut T.length) (i : Int) = xo at poa pob HS4 HEO
        generalize sumL (T.take i) = sm at HSM ps0 ps2
        have Q0 := Aside0.mk q0
        have Q1 := Aside0.mk q1
        have Q2 := Aside0.mk q2
        have Q3 := Aside0.mk q3
        replace q0 := cellUp HX.out q0
        replace q1 := cellUp HX.out q1
        replace q2 := cellUp HX.out q2
        replace q3 := cellUp HX.out q3
        go_upto_region 23 with fail
        go_cut [304] (fun v304 wc => v304 = .bool false ∧ ∃ m, wc = wr.drewN m)
        case first => as_aux_lemma =>
          have t1 : decide (x1 < 0) = false := decide_eq_false (by omega)
          have t2 : decide ((cut : Int) ≤ x1) = false := decide_eq_false (by omega)
          have t3 : decide (x2 < 0) = false := decide_eq_false (by omega)
          have t4 : decide ((cut : Int) ≤ x2) = false := decide_eq_false (by omega)
          have t5 : decide (x3 < 0) = false := decide_eq_false (by omega)
          have t6 : decide (N3 ≤ x3) = false := decide_eq_false (by omega)
          rcases Nat.eq_zero_or_pos i with hi0 | hi0
          · have t7 : decide (0 < i) = false := decide_eq_false (by omega)
            have t8 : decide (0 < (i : Int)) = false := decide_eq_false (by omega)
            clear hi0
            go_wp2_with fail
            refine wp_region_quiet_lit (by kernel_rfl) (lex_cast lex23 (by kernel_rfl)) ?_
            repeat (go_big_quiet_step (fail))
            refine wpQuiet_nil ?_
            intro _ hw'
            obtain ⟨nq, hw''⟩ := hw'
            subst hw''
            go_wp2_with fail
            go_meet
            case rel => exact ⟨rfl, _, rfl⟩
          · obtain ⟨y1, y3, u1, u3, hy1, hy3, hy6, ha⟩ := HPR.out hi0
            obtain ⟨p, hp⟩ : ∃ p, i - 1 = p := ⟨_, rfl⟩
            have hw1 : wrap64 ((i : Int) - 1) = (p : Int) := by have := HT1.out; unfold wrap64; omega
            rw [hp] at u1 u3
            have t7 : decide (0 < i) = true := decide_eq_true hi0
            have t8 : decide (0 < (i : Int)) = true := decide_eq_true (by omega)
            have t9 : decide (x1 < y1) = false := decide_eq_false (by omega)
            have hi3 : p < X1.length := by omega
            have hi4 : p < X3.length := by omega
            clear hp hi0
            rcases ha with ha | ha
            · subst ha
              go_wp2_with fail
              refine wp_region_quiet_lit (by kernel_rfl) (lex_cast lex23 (by kernel_rfl)) ?_
              repeat (go_big_quiet_step (fail))
              refine wpQuiet_nil ?_
              intro _ hw'
              obtain ⟨nq, hw''⟩ := hw'
              subst hw''
              go_wp2_with fail
              go_meet
              case rel => exact ⟨rfl, _, rfl⟩
            · subst ha
              have tA : (y3 + 1 != y3) = true := bne_iff_ne.2 (by omega)
              have tB : (y3 + 1 == y3) = false := beq_eq_false_iff_ne.2 (by omega)
              go_wp2_with fail
              refine wp_region_quiet_lit (by kernel_rfl) (lex_cast lex23 (by kernel_rfl)) ?_
              repeat (go_big_quiet_step (fail))
              refine wpQuiet_nil ?_
              intro _ hw'
              obtain ⟨nq, hw''⟩ := hw'
              subst hw''
              go_wp2_with fail
              go_meet
              case rel => exact ⟨rfl, _, rfl⟩
        case rest =>
          obtain ⟨rfl, m, rfl⟩ := hcut
          clear q0 q1 q2 q3 HPR
          have DX := Aside0.mk (pw_below_drewN HX.out m)
          have D1 := Aside0.mk (blk_drewN R1.out m)
          have D2 := Aside0.mk (blk_drewN R2.out m)
          have D3 := Aside0.mk (blk_drewN R3.out m)
          have D4 := Aside0.mk (blk_drewN R4.out m)
          clear HX R1 R2 R3 R4
          generalize wr.drewN m = wq at DX D1 D2 D3 D4 ⊢
          have q0 := cellUp DX.out Q0.out
          go_upto_region 26 with fail
          go_cut [27] (fun v27 wc => ∃ m2 : Int, v27 = .int .i64 m2 ∧ 0 ≤ m2 ∧ m2 ≤ 40 ∧ m2 ≤ M2 ∧ wc = wq)
          case first =>
            rcases Int.lt_trichotomy mx t with hle | hle | hle
            · have e1 : decide (mx ≤ t) = true := decide_eq_true (by omega)
              have e2 : decide (mx < t) = true := decide_eq_true hle
              have e3 : decide (t ≤ mx) = false := decide_eq_false (by omega)
              have e4 : decide (t < mx) = false := decide_eq_false (by omega)
              go_wp2_with fail
              go_meet
              case rel => exact ⟨t, by first | (simp; done) | (simp; omega), by omega, by omega, by omega, rfl⟩
            · subst hle
              go_wp2_with fail
              go_meet
              case rel => exact ⟨mx, by simp, by omega, by omega, by omega, rfl⟩
            · have e1 : decide (mx ≤ t) = false := decide_eq_false (by omega)
              have e2 : decide (mx < t) = false := decide_eq_false (by omega)
              have e3 : decide (t ≤ mx) = true := decide_eq_true (by omega)
              have e4 : decide (t < mx) = true := decide_eq_true hle
              go_wp2_with fail
              go_meet
              case rel => exact ⟨mx, by first | (simp; done) | (simp; omega), by omega, by omega, by omega, rfl⟩
          case rest =>
          obtain ⟨m2, rfl, hn0, hn1, hn2, hwc⟩ := hcut
          obtain rfl : wq = wc := hwc.symm
          clear mx hm0 hm1 hm2
          go_wp2_with fail
          have BX := Aside0.mk (below_drew1 DX.out)
          have B1 := Aside0.mk (blk_drew D1.out)
          have B2 := Aside0.mk (blk_drew D2.out)
          have B3 := Aside0.mk (blk_drew D3.out)
          have B4 := Aside0.mk (blk_drew D4.out)
          clear DX D1 D2 D3 D4
          obtain ⟨s1, hs1⟩ : ∃ s, finF (T.take i) (X1.take i) (fun _ => 0) x1.toNat = s := ⟨_, rfl⟩
          obtain ⟨sa1, sb1⟩ := fin_bd0 HT2.out HT1.out (X1.take i) i x1.toNat
          rw [hs1] at sa1 sb1
          have z1 := RowAt.cell B1.out (k := x1.toNat) (by omega)
          have zf1 := blk_frozen B1.out x1.toNat
          rw [hs1] at z1
          have HSS := Aside0.mk hs1
          clear hs1
          have y0 := cellUp BX.out Q0.out
          have y1 := cellUp BX.out Q1.out
          refine start_ (n := 14) (S := fun w' => w'.cell? (ad0.add i) = some (.int .i64 t) ∧ w'.cell? (ad1.add i) = some (.int .i64 x1) ∧ w'.cell? ⟨g1, x1.toNat, none⟩ = some (.int .i64 s1)) (ds := [13]) #[false, false, false, false, false, false, false, false, false, false, false, false, false, false] (by kernel_rfl) rfl rfl ⟨y0, y1, z1⟩ (fun hHeld => ?_)
          refine with_tabW oshTab.tab27 oshTab.bits27 (fun HT_ HW_ => ?_)
          generalize wq.drew = wd at BX B1 B2 B3 B4 z1 zf1 hHeld ⊢
          refine pure_ (i := 0) (N := some 317) (v := ?_) (a' := ?_) #[true, false, false, false, false, false, false, false, false, false, false, false, false, false] rfl rfl (any_of HT_.out (by kernel_rfl)) (fun _ _ _ h => h) (Or.inl ⟨by rfl, ?_⟩) ?_ ?_
          rotate_left
          · intro w'
            go_simp
            with_reducible rfl
          rotate_left
          · simp only [Act.put, List.setIfInBounds_toArray, List.set_cons_zero, List.set_cons_succ, i64_w, i32_w]
            rfl
          refine pure_ (i := 1) (N := some 318) (v := ?_) (a' := ?_) #[true, true, false, false, false, false, false, false, false, false, false, false, false, false] rfl rfl (any_of HT_.out (by kernel_rfl)) (fun _ _ _ h => h) (Or.inl ⟨by rfl, ?_⟩) ?_ ?_
          rotate_left
          · intro w'
            go_simp
            with_reducible rfl
          rotate_left
          · simp only [Act.put, List.setIfInBounds_toArray, List.set_cons_zero, List.set_cons_succ, i64_w, i32_w]
            rfl
          refine pure_ (i := 2) (N := some 319) (v := ?_) (a' := ?_) #[true, true, true, false, false, false, false, false, false, false, false, false, false, false] rfl rfl (any_of HT_.out (by kernel_rfl)) (fun _ _ _ h => h) (Or.inl ⟨by rfl, ?_⟩) ?_ ?_
          rotate_left
          · intro w'
            go_simp
            with_reducible rfl
          rotate_left
          · simp only [Act.put, List.setIfInBounds_toArray, List.set_cons_zero, List.set_cons_succ, i64_w, i32_w]
            rfl
          refine pure_ (i := 3) (N := some 320) (v := ?_) (a' := ?_) #[true, true, true, true, false, false, false, false, false, false, false, false, false, false] rfl rfl (any_of HT_.out (by kernel_rfl)) (fun _ _ _ h => h) (Or.inl ⟨by rfl, ?_⟩) ?_ ?_
          rotate_left
          · intro w'
            go_simp
            with_reducible rfl
          rotate_left
          · simp only [Act.put, List.setIfInBounds_toArray, List.set_cons_zero, List.set_cons_succ, i64_w, i32_w]
            rfl
          refine pure_ (i := 7) (N := some 324) (v := ?_) (a' := ?_) #[true, true, true, true, false, false, false, true, false, false, false, false, false, false] rfl rfl (any_of HT_.out (by kernel_rfl)) (fun _ _ _ h => h) (Or.inl ⟨by rfl, ?_⟩) ?_ ?_
          rotate_left
          · intro w'
            go_simp
            with_reducible rfl
          rotate_left
          · simp only [Act.put, List.setIfInBounds_toArray, List.set_cons_zero, List.set_cons_succ, i64_w, i32_w]
            rfl
          refine pure_ (i := 8) (N := some 325) (v := ?_) (a' := ?_) #[true, true, true, true, false, false, false, true, true, false, false, false, false, false] rfl rfl (any_of HT_.out (by kernel_rfl)) (fun _ _ _ h => h) (Or.inl ⟨by rfl, ?_⟩) ?_ ?_
          rotate_left
          · intro w'
            go_simp
            with_reducible rfl
          rotate_left
          · simp only [Act.put, List.setIfInBounds_toArray, List.set_cons_zero, List.set_cons_succ, i64_w, i32_w]
            rfl
          refine pure_ (i := 9) (N := some 326) (v := ?_) (a' := ?_) #[true, true, true, true, false, false, false, true, true, true, false, false, false, false] rfl rfl (any_of HT_.out (by kernel_rfl)) (fun _ _ _ h => h) (Or.inl ⟨by rfl, ?_⟩) ?_ ?_
          rotate_left
          · intro w'
            go_simp
            with_reducible rfl
          rotate_left
          · simp only [Act.put, List.setIfInBounds_toArray, List.set_cons_zero, List.set_cons_succ, i64_w, i32_w]
            rfl
          refine take_ (i := 4) (N := some 321) (v := ?_) (a' := ?_) #[true, true, true, true, true, false, false, true, true, true, false, false, false, false] rfl rfl (take_ofW HT_.out HW_.out (by kernel_rfl)) (fun _ _ _ h => h) (Or.inl ⟨by rfl, ?_⟩) hHeld ?_ ?_
          rotate_left
          · rintro w' ⟨s0, s1, s2⟩
            go_simp
            with_reducible rfl
          rotate_left
          · simp only [Act.put, List.setIfInBounds_toArray, List.set_cons_zero, List.set_cons_succ, i64_w, i32_w]
            rfl
          refine pure_ (i := 5) (N := some 322) (v := ?_) (a' := ?_) #[true, true, true, true, true, true, false, true, true, true, false, false, false, false] rfl rfl (any_of HT_.out (by kernel_rfl)) (fun _ _ _ h => h) (Or.inl ⟨by rfl, ?_⟩) ?_ ?_
          rotate_left
          · intro w'
            go_simp
            with_reducible rfl
          rotate_left
          · simp only [Act.put, List.setIfInBounds_toArray, List.set_cons_zero, List.set_cons_succ, i64_w, i32_w]
            rfl
          refine take_ (i := 6) (N := some 323) (v := ?_) (a' := ?_) #[true, true, true, true, true, true, true, true, true, true, false, false, false, false] rfl rfl (take_ofW HT_.out HW_.out (by kernel_rfl)) (fun _ _ _ h => h) (Or.inl ⟨by rfl, ?_⟩) hHeld ?_ ?_
          rotate_left
          · rintro w' ⟨s0, s1, s2⟩
            go_simp
            with_reducible rfl
          rotate_left
          · simp only [Act.put, List.setIfInBounds_toArray, List.set_cons_zero, List.set_cons_succ, i64_w, i32_w]
            rfl
          refine take_ (i := 10) (N := some 327) (v := ?_) (a' := ?_) #[true, true, true, true, true, true, true, true, true, true, true, false, false, false] rfl rfl (take_ofW HT_.out HW_.out (by kernel_rfl)) (fun _ _ _ h => h) (Or.inl ⟨by rfl, ?_⟩) hHeld ?_ ?_
          rotate_left
          · rintro w' ⟨s0, s1, s2⟩
            go_simp
            with_reducible rfl
          rotate_left
          · simp only [Act.put, List.setIfInBounds_toArray, List.set_cons_zero, List.set_cons_succ, i64_w, i32_w]
            rfl
          refine pure_ (i := 11) (N := some 328) (v := ?_) (a' := ?_) #[true, true, true, true, true, true, true, true, true, true, true, true, false, false] rfl rfl (any_of HT_.out (by kernel_rfl)) (fun _ _ _ h => h) (Or.inl ⟨by rfl, ?_⟩) ?_ ?_
          rotate_left
          · intro w'
            go_simp
            with_reducible rfl
          rotate_left
          · simp only [Act.put, List.setIfInBounds_toArray, List.set_cons_zero, List.set_cons_succ, i64_w, i32_w]
            rfl
          refine pure_ (i := 12) (N := some 329) (v := ?_) (a' := ?_) #[true, true, true, true, true, true, true, true, true, true, true, true, true, false] rfl rfl (any_of HT_.out (by kernel_rfl)) (fun _ _ _ h => h) (Or.inl ⟨by rfl, ?_⟩) ?_ ?_
          rotate_left
          · intro w'
            go_simp
            with_reducible rfl
          rotate_left
          · simp only [Act.put, List.setIfInBounds_toArray, List.set_cons_zero, List.set_cons_succ, i64_w, i32_w]
            rfl
          refine last_ (i := 13) (N := none) #[true, true, true, true, true, true, true, true, true, true, true, true, true, true] rfl rfl (one_of HT_.out (by kernel_rfl)) (by decide) (fun K hK => ?_)
          refine skip_ (w1 := ?_) (by rfl) rfl ?_ ?_
          rotate_left
          · go_simp
            rfl
          refine hK.out _ _ ?_
          clear hK K
          refine done_ (done_of HT_.out (by kernel_rfl)) ?_
          clear hHeld HT_ HW_ y1 y0 z1 zf1
          have hws : wrap64 (s1 + t) = s1 + t := by unfold wrap64; omega
          have E1 := Aside0.mk (RowAt.put B1.out (k := x1.toNat) (by omega) (wrap64 (s1 + t)))
          have E2 := Aside0.mk (blk_far (p := ⟨g1, x1.toNat, none⟩) B2.out (by have := KG.out; show g2 ≠ g1; omega) (.int .i64 (wrap64 (s1 + t))))
          have E3 := Aside0.mk (blk_far (p := ⟨g1, x1.toNat, none⟩) B3.out (by have := KG.out; show g3 ≠ g1; omega) (.int .i64 (wrap64 (s1 + t))))
          have E4 := Aside0.mk (blk_far (p := ⟨g1, x1.toNat, none⟩) B4.out (by have := KG.out; show g4 ≠ g1; omega) (.int .i64 (wrap64 (s1 + t))))
          have DX := Aside0.mk (below_set (j := x1.toNat) (v := (.int .i64 (wrap64 (s1 + t)))) BX.out (by have := KG.out; omega : w13.heap.size ≤ g1))
          replace HS1 : Aside0 (Pure.up (finF (T.take i) (X1.take i) (fun _ => 0)) x1.toNat (wrap64 (s1 + t)) = finF (T.take (i + 1)) (X1.take (i + 1)) (fun _ => 0)) := ⟨by rw [hws, HS1.out, HSS.out]⟩
          rw [HS1.out] at E1
          clear B1 B2 B3 B4 BX hws HSS HS1
          generalize wd.setCell ⟨g1, x1.toNat, none⟩ (Value.int .i64 (wrap64 (s1 + t))) = wq at DX E1 E2 E3 E4 ⊢
          clear wd
          go_wp2_with fail
          have BX := Aside0.mk (below_drew1 DX.out)
          have B1 := Aside0.mk (blk_drew E1.out)
          have B2 := Aside0.mk (blk_drew E2.out)
          have B3 := Aside0.mk (blk_drew E3.out)
          have B4 := Aside0.mk (blk_drew E4.out)
          clear DX E1 E2 E3 E4
          obtain ⟨s2, hs2⟩ : ∃ s, finF (T.take i) (X2.take i) (fun _ => 0) x2.toNat = s := ⟨_, rfl⟩
          obtain ⟨sa2, sb2⟩ := fin_bd0 HT2.out HT1.out (X2.take i) i x2.toNat
          rw [hs2] at sa2 sb2
          have z2 := RowAt.cell B2.out (k := x2.toNat) (by omega)
          have zf2 := blk_frozen B2.out x2.toNat
          rw [hs2] at z2
          have HSS := Aside0.mk hs2
          clear hs2
          have y0 := cellUp BX.out Q0.out
          have y1 := cellUp BX.out Q2.out
          refine start_ (n := 14) (S := fun w' => w'.cell? (ad0.add i) = some (.int .i64 t) ∧ w'.cell? (ad2.add i) = some (.int .i64 x2) ∧ w'.cell? ⟨g2, x2.toNat, none⟩ = some (.int .i64 s2)) (ds := [13]) #[false, false, false, false, false, false, false, false, false, false, false, false, false, false] (by kernel_rfl) rfl rfl ⟨y0, y1, z2⟩ (fun hHeld => ?_)
          refine with_tabW oshTab.tab28 oshTab.bits28 (fun HT_ HW_ => ?_)
          generalize wq.drew = wd at BX B1 B2 B3 B4 z2 zf2 hHeld ⊢
          refine pure_ (i := 0) (N := some 330) (v := ?_) (a' := ?_) #[true, false, false, false, false, false, false, false, false, false, false, false, false, false] rfl rfl (any_of HT_.out (by kernel_rfl)) (fun _ _ _ h => h) (Or.inl ⟨by rfl, ?_⟩) ?_ ?_
          rotate_left
          · intro w'
            go_simp
            with_reducible rfl
          rotate_left
          · simp only [Act.put, List.setIfInBounds_toArray, List.set_cons_zero, List.set_cons_succ, i64_w, i32_w]
            rfl
          refine pure_ (i := 1) (N := some 331) (v := ?_) (a' := ?_) #[true, true, false, false, false, false, false, false, false, false, false, false, false, false] rfl rfl (any_of HT_.out (by kernel_rfl)) (fun _ _ _ h => h) (Or.inl ⟨by rfl, ?_⟩) ?_ ?_
          rotate_left
          · intro w'
            go_simp
            with_reducible rfl
          rotate_left
          · simp only [Act.put, List.setIfInBounds_toArray, List.set_cons_zero, List.set_cons_succ, i64_w, i32_w]
            rfl
          refine pure_ (i := 2) (N := some 332) (v := ?_) (a' := ?_) #[true, true, true, false, false, false, false, false, false, false, false, false, false, false] rfl rfl (any_of HT_.out (by kernel_rfl)) (fun _ _ _ h => h) (Or.inl ⟨by rfl, ?_⟩) ?_ ?_
          rotate_left
          · intro w'
            go_simp
            with_reducible rfl
          rotate_left
          · simp only [Act.put, List.setIfInBounds_toArray, List.set_cons_zero, List.set_cons_succ, i64_w, i32_w]
            rfl
          refine pure_ (i := 3) (N := some 333) (v := ?_) (a' := ?_) #[true, true, true, true, false, false, false, false, false, false, false, false, false, false] rfl rfl (any_of HT_.out (by kernel_rfl)) (fun _ _ _ h => h) (Or.inl ⟨by rfl, ?_⟩) ?_ ?_
          rotate_left
          · intro w'
            go_simp
            with_reducible rfl
          rotate_left
          · simp only [Act.put, List.setIfInBounds_toArray, List.set_cons_zero, List.set_cons_succ, i64_w, i32_w]
            rfl
          refine pure_ (i := 7) (N := some 337) (v := ?_) (a' := ?_) #[true, true, true, true, false, false, false, true, false, false, false, false, false, false] rfl rfl (any_of HT_.out (by kernel_rfl)) (fun _ _ _ h => h) (Or.inl ⟨by rfl, ?_⟩) ?_ ?_
          rotate_left
          · intro w'
            go_simp
            with_reducible rfl
          rotate_left
          · simp only [Act.put, List.setIfInBounds_toArray, List.set_cons_zero, List.set_cons_succ, i64_w, i32_w]
            rfl
          refine pure_ (i := 8) (N := some 338) (v := ?_) (a' := ?_) #[true, true, true, true, false, false, false, true, true, false, false, false, false, false] rfl rfl (any_of HT_.out (by kernel_rfl)) (fun _ _ _ h => h) (Or.inl ⟨by rfl, ?_⟩) ?_ ?_
          rotate_left
          · intro w'
            go_simp
            with_reducible rfl
          rotate_left
          · simp only [Act.put, List.setIfInBounds_toArray, List.set_cons_zero, List.set_cons_succ, i64_w, i32_w]
            rfl
          refine pure_ (i := 9) (N := some 339) (v := ?_) (a' := ?_) #[true, true, true, true, false, false, false, true, true, true, false, false, false, false] rfl rfl (any_of HT_.out (by kernel_rfl)) (fun _ _ _ h => h) (Or.inl ⟨by rfl, ?_⟩) ?_ ?_
          rotate_left
          · intro w'
            go_simp
            with_reducible rfl
          rotate_left
          · simp only [Act.put, List.setIfInBounds_toArray, List.set_cons_zero, List.set_cons_succ, i64_w, i32_w]
            rfl
          refine take_ (i := 4) (N := some 334) (v := ?_) (a' := ?_) #[true, true, true, true, true, false, false, true, true, true, false, false, false, false] rfl rfl (take_ofW HT_.out HW_.out (by kernel_rfl)) (fun _ _ _ h => h) (Or.inl ⟨by rfl, ?_⟩) hHeld ?_ ?_
          rotate_left
          · rintro w' ⟨s0, s1, s2⟩
            go_simp
            with_reducible rfl
          rotate_left
          · simp only [Act.put, List.setIfInBounds_toArray, List.set_cons_zero, List.set_cons_succ, i64_w, i32_w]
            rfl
          refine pure_ (i := 5) (N := some 335) (v := ?_) (a' := ?_) #[true, true, true, true, true, true, false, true, true, true, false, false, false, false] rfl rfl (any_of HT_.out (by kernel_rfl)) (fun _ _ _ h => h) (Or.inl ⟨by rfl, ?_⟩) ?_ ?_
          rotate_left
          · intro w'
            go_simp
            with_reducible rfl
          rotate_left
          · simp only [Act.put, List.setIfInBounds_toArray, List.set_cons_zero, List.set_cons_succ, i64_w, i32_w]
            rfl
          refine take_ (i := 6) (N := some 336) (v := ?_) (a' := ?_) #[true, true, true, true, true, true, true, true, true, true, false, false, false, false] rfl rfl (take_ofW HT_.out HW_.out (by kernel_rfl)) (fun _ _ _ h => h) (Or.inl ⟨by rfl, ?_⟩) hHeld ?_ ?_
          rotate_left
          · rintro w' ⟨s0, s1, s2⟩
            go_simp
            with_reducible rfl
          rotate_left
          · simp only [Act.put, List.setIfInBounds_toArray, List.set_cons_zero, List.set_cons_succ, i64_w, i32_w]
            rfl
          refine take_ (i := 10) (N := some 340) (v := ?_) (a' := ?_) #[true, true, true, true, true, true, true, true, true, true, true, false, false, false] rfl rfl (take_ofW HT_.out HW_.out (by kernel_rfl)) (fun _ _ _ h => h) (Or.inl ⟨by rfl, ?_⟩) hHeld ?_ ?_
          rotate_left
          · rintro w' ⟨s0, s1, s2⟩
            go_simp
            with_reducible rfl
          rotate_left
          · simp only [Act.put, List.setIfInBounds_toArray, List.set_cons_zero, List.set_cons_succ, i64_w, i32_w]
            rfl
          refine pure_ (i := 11) (N := some 341) (v := ?_) (a' := ?_) #[true, true, true, true, true, true, true, true, true, true, true, true, false, false] rfl rfl (any_of HT_.out (by kernel_rfl)) (fun _ _ _ h => h) (Or.inl ⟨by rfl, ?_⟩) ?_ ?_
          rotate_left
          · intro w'
            go_simp
            with_reducible rfl
          rotate_left
          · simp only [Act.put, List.setIfInBounds_toArray, List.set_cons_zero, List.set_cons_succ, i64_w, i32_w]
            rfl
          refine pure_ (i := 12) (N := some 342) (v := ?_) (a' := ?_) #[true, true, true, true, true, true, true, true, true, true, true, true, true, false] rfl rfl (any_of HT_.out (by kernel_rfl)) (fun _ _ _ h => h) (Or.inl ⟨by rfl, ?_⟩) ?_ ?_
          rotate_left
          · intro w'
            go_simp
            with_reducible rfl
          rotate_left
          · simp only [Act.put, List.setIfInBounds_toArray, List.set_cons_zero, List.set_cons_succ, i64_w, i32_w]
            rfl
          refine last_ (i := 13) (N := none) #[true, true, true, true, true, true, true, true, true, true, true, true, true, true] rfl rfl (one_of HT_.out (by kernel_rfl)) (by decide) (fun K hK => ?_)
          refine skip_ (w1 := ?_) (by rfl) rfl ?_ ?_
          rotate_left
          · go_simp
            rfl
          refine hK.out _ _ ?_
          clear hK K
          refine done_ (done_of HT_.out (by kernel_rfl)) ?_
          clear hHeld HT_ HW_ y1 y0 z2 zf2
          have hws : wrap64 (s2 + t) = s2 + t := by unfold wrap64; omega
          have E1 := Aside0.mk (blk_far (p := ⟨g2, x2.toNat, none⟩) B1.out (by have := KG.out; show g1 ≠ g2; omega) (.int .i64 (wrap64 (s2 + t))))
          have E2 := Aside0.mk (RowAt.put B2.out (k := x2.toNat) (by omega) (wrap64 (s2 + t)))
          have E3 := Aside0.mk (blk_far (p := ⟨g2, x2.toNat, none⟩) B3.out (by have := KG.out; show g3 ≠ g2; omega) (.int .i64 (wrap64 (s2 + t))))
          have E4 := Aside0.mk (blk_far (p := ⟨g2, x2.toNat, none⟩) B4.out (by have := KG.out; show g4 ≠ g2; omega) (.int .i64 (wrap64 (s2 + t))))
          have DX := Aside0.mk (below_set (j := x2.toNat) (v := (.int .i64 (wrap64 (s2 + t)))) BX.out (by have := KG.out; omega : w13.heap.size ≤ g2))
          replace HS2 : Aside0 (Pure.up (finF (T.take i) (X2.take i) (fun _ => 0)) x2.toNat (wrap64 (s2 + t)) = finF (T.take (i + 1)) (X2.take (i + 1)) (fun _ => 0)) := ⟨by rw [hws, HS2.out, HSS.out]⟩
          rw [HS2.out] at E2
          clear B1 B2 B3 B4 BX hws HSS HS2
          generalize wd.setCell ⟨g2, x2.toNat, none⟩ (Value.int .i64 (wrap64 (s2 + t))) = wq at DX E1 E2 E3 E4 ⊢
          clear wd
          go_wp2_with fail
          have BX := Aside0.mk (below_drew1 DX.out)
          have B1 := Aside0.mk (blk_drew E1.out)
          have B2 := Aside0.mk (blk_drew E2.out)
          have B3 := Aside0.mk (blk_drew E3.out)
          have B4 := Aside0.mk (blk_drew E4.out)
          clear DX E1 E2 E3 E4
          obtain ⟨s3, hs3⟩ : ∃ s, finF (T.take i) (X3.take i) (fun _ => 0) x3.toNat = s := ⟨_, rfl⟩
          obtain ⟨sa3, sb3⟩ := fin_bd0 HT2.out HT1.out (X3.take i) i x3.toNat
          rw [hs3] at sa3 sb3
          have z3 := RowAt.cell B3.out (k := x3.toNat) (by omega)
          have zf3 := blk_frozen B3.out x3.toNat
          rw [hs3] at z3
          have HSS := Aside0.mk hs3
          clear hs3
          have y0 := cellUp BX.out Q0.out
          have y1 := cellUp BX.out Q3.out
          refine start_ (n := 14) (S := fun w' => w'.cell? (ad0.add i) = some (.int .i64 t) ∧ w'.cell? (ad3.add i) = some (.int .i64 x3) ∧ w'.cell? ⟨g3, x3.toNat, none⟩ = some (.int .i64 s3)) (ds := [13]) #[false, false, false, false, false, false, false, false, false, false, false, false, false, false] (by kernel_rfl) rfl rfl ⟨y0, y1, z3⟩ (fun hHeld => ?_)
          refine with_tabW oshTab.tab29 oshTab.bits29 (fun HT_ HW_ => ?_)
          generalize wq.drew = wd at BX B1 B2 B3 B4 z3 zf3 hHeld ⊢
          refine pure_ (i := 0) (N := some 343) (v := ?_) (a' := ?_) #[true, false, false, false, false, false, false, false, false, false, false, false, false, false] rfl rfl (any_of HT_.out (by kernel_rfl)) (fun _ _ _ h => h) (Or.inl ⟨by rfl, ?_⟩) ?_ ?_
          rotate_left
          · intro w'
            go_simp
            with_reducible rfl
          rotate_left
          · simp only [Act.put, List.setIfInBounds_toArray, List.set_cons_zero, List.set_cons_succ, i64_w, i32_w]
            rfl
          refine pure_ (i := 1) (N := some 344) (v := ?_) (a' := ?_) #[true, true, false, false, false, false, false, false, false, false, false, false, false, false] rfl rfl (any_of HT_.out (by kernel_rfl)) (fun _ _ _ h => h) (Or.inl ⟨by rfl, ?_⟩) ?_ ?_
          rotate_left
          · intro w'
            go_simp
            with_reducible rfl
          rotate_left
          · simp only [Act.put, List.setIfInBounds_toArray, List.set_cons_zero, List.set_cons_succ, i64_w, i32_w]
            rfl
          refine pure_ (i := 2) (N := some 345) (v := ?_) (a' := ?_) #[true, true, true, false, false, false, false, false, false, false, false, false, false, false] rfl rfl (any_of HT_.out (by kernel_rfl)) (fun _ _ _ h => h) (Or.inl ⟨by rfl, ?_⟩) ?_ ?_
          rotate_left
          · intro w'
            go_simp
            with_reducible rfl
          rotate_left
          · simp only [Act.put, List.setIfInBounds_toArray, List.set_cons_zero, List.set_cons_succ, i64_w, i32_w]
            rfl
          refine pure_ (i := 3) (N := some 346) (v := ?_) (a' := ?_) #[true, true, true, true, false, false, false, false, false, false, false, false, false, false] rfl rfl (any_of HT_.out (by kernel_rfl)) (fun _ _ _ h => h) (Or.inl ⟨by rfl, ?_⟩) ?_ ?_
          rotate_left
          · intro w'
            go_simp
            with_reducible rfl
          rotate_left
          · simp only [Act.put, List.setIfInBounds_toArray, List.set_cons_zero, List.set_cons_succ, i64_w, i32_w]
            rfl
          refine pure_ (i := 7) (N := some 350) (v := ?_) (a' := ?_) #[true, true, true, true, false, false, false, true, false, false, false, false, false, false] rfl rfl (any_of HT_.out (by kernel_rfl)) (fun _ _ _ h => h) (Or.inl ⟨by rfl, ?_⟩) ?_ ?_
          rotate_left
          · intro w'
            go_simp
            with_reducible rfl
          rotate_left
          · simp only [Act.put, List.setIfInBounds_toArray, List.set_cons_zero, List.set_cons_succ, i64_w, i32_w]
            rfl
          refine pure_ (i := 8) (N := some 351) (v := ?_) (a' := ?_) #[true, true, true, true, false, false, false, true, true, false, false, false, false, false] rfl rfl (any_of HT_.out (by kernel_rfl)) (fun _ _ _ h => h) (Or.inl ⟨by rfl, ?_⟩) ?_ ?_
          rotate_left
          · intro w'
            go_simp
            with_reducible rfl
          rotate_left
          · simp only [Act.put, List.setIfInBounds_toArray, List.set_cons_zero, List.set_cons_succ, i64_w, i32_w]
            rfl
          refine pure_ (i := 9) (N := some 352) (v := ?_) (a' := ?_) #[true, true, true, true, false, false, false, true, true, true, false, false, false, false] rfl rfl (any_of HT_.out (by kernel_rfl)) (fun _ _ _ h => h) (Or.inl ⟨by rfl, ?_⟩) ?_ ?_
          rotate_left
          · intro w'
            go_simp
            with_reducible rfl
          rotate_left
          · simp only [Act.put, List.setIfInBounds_toArray, List.set_cons_zero, List.set_cons_succ, i64_w, i32_w]
            rfl
          refine take_ (i := 4) (N := some 347) (v := ?_) (a' := ?_) #[true, true, true, true, true, false, false, true, true, true, false, false, false, false] rfl rfl (take_ofW HT_.out HW_.out (by kernel_rfl)) (fun _ _ _ h => h) (Or.inl ⟨by rfl, ?_⟩) hHeld ?_ ?_
          rotate_left
          · rintro w' ⟨s0, s1, s2⟩
            go_simp
            with_reducible rfl
          rotate_left
          · simp only [Act.put, List.setIfInBounds_toArray, List.set_cons_zero, List.set_cons_succ, i64_w, i32_w]
            rfl
          refine pure_ (i := 5) (N := some 348) (v := ?_) (a' := ?_) #[true, true, true, true, true, true, false, true, true, true, false, false, false, false] rfl rfl (any_of HT_.out (by kernel_rfl)) (fun _ _ _ h => h) (Or.inl ⟨by rfl, ?_⟩) ?_ ?_
          rotate_left
          · intro w'
            go_simp
            with_reducible rfl
          rotate_left
          · simp only [Act.put, List.setIfInBounds_toArray, List.set_cons_zero, List.set_cons_succ, i64_w, i32_w]
            rfl
          refine take_ (i := 6) (N := some 349) (v := ?_) (a' := ?_) #[true, true, true, true, true, true, true, true, true, true, false, false, false, false] rfl rfl (take_ofW HT_.out HW_.out (by kernel_rfl)) (fun _ _ _ h => h) (Or.inl ⟨by rfl, ?_⟩) hHeld ?_ ?_
          rotate_left
          · rintro w' ⟨s0, s1, s2⟩
            go_simp
            with_reducible rfl
          rotate_left
          · simp only [Act.put, List.setIfInBounds_toArray, List.set_cons_zero, List.set_cons_succ, i64_w, i32_w]
            rfl
          refine take_ (i := 10) (N := some 353) (v := ?_) (a' := ?_) #[true, true, true, true, true, true, true, true, true, true, true, false, false, false] rfl rfl (take_ofW HT_.out HW_.out (by kernel_rfl)) (fun _ _ _ h => h) (Or.inl ⟨by rfl, ?_⟩) hHeld ?_ ?_
          rotate_left
          · rintro w' ⟨s0, s1, s2⟩
            go_simp
            with_reducible rfl
          rotate_left
          · simp only [Act.put, List.setIfInBounds_toArray, List.set_cons_zero, List.set_cons_succ, i64_w, i32_w]
            rfl
          refine pure_ (i := 11) (N := some 354) (v := ?_) (a' := ?_) #[true, true, true, true, true, true, true, true, true, true, true, true, false, false] rfl rfl (any_of HT_.out (by kernel_rfl)) (fun _ _ _ h => h) (Or.inl ⟨by rfl, ?_⟩) ?_ ?_
          rotate_left
          · intro w'
            go_simp
            with_reducible rfl
          rotate_left
          · simp only [Act.put, List.setIfInBounds_toArray, List.set_cons_zero, List.set_cons_succ, i64_w, i32_w]
            rfl
          refine pure_ (i := 12) (N := some 355) (v := ?_) (a' := ?_) #[true, true, true, true, true, true, true, true, true, true, true, true, true, false] rfl rfl (any_of HT_.out (by kernel_rfl)) (fun _ _ _ h => h) (Or.inl ⟨by rfl, ?_⟩) ?_ ?_
          rotate_left
          · intro w'
            go_simp
            with_reducible rfl
          rotate_left
          · simp only [Act.put, List.setIfInBounds_toArray, List.set_cons_zero, List.set_cons_succ, i64_w, i32_w]
            rfl
          refine last_ (i := 13) (N := none) #[true, true, true, true, true, true, true, true, true, true, true, true, true, true] rfl rfl (one_of HT_.out (by kernel_rfl)) (by decide) (fun K hK => ?_)
          refine skip_ (w1 := ?_) (by rfl) rfl ?_ ?_
          rotate_left
          · go_simp
            rfl
          refine hK.out _ _ ?_
          clear hK K
          refine done_ (done_of HT_.out (by kernel_rfl)) ?_
          clear hHeld HT_ HW_ y1 y0 z3 zf3
          have hws : wrap64 (s3 + t) = s3 + t := by unfold wrap64; omega
          have E1 := Aside0.mk (blk_far (p := ⟨g3, x3.toNat, none⟩) B1.out (by have := KG.out; show g1 ≠ g3; omega) (.int .i64 (wrap64 (s3 + t))))
          have E2 := Aside0.mk (blk_far (p := ⟨g3, x3.toNat, none⟩) B2.out (by have := KG.out; show g2 ≠ g3; omega) (.int .i64 (wrap64 (s3 + t))))
          have E3 := Aside0.mk (RowAt.put B3.out (k := x3.toNat) (by omega) (wrap64 (s3 + t)))
          have E4 := Aside0.mk (blk_far (p := ⟨g3, x3.toNat, none⟩) B4.out (by have := KG.out; show g4 ≠ g3; omega) (.int .i64 (wrap64 (s3 + t))))
          have DX := Aside0.mk (below_set (j := x3.toNat) (v := (.int .i64 (wrap64 (s3 + t)))) BX.out (by have := KG.out; omega : w13.heap.size ≤ g3))
          replace HS3 : Aside0 (Pure.up (finF (T.take i) (X3.take i) (fun _ => 0)) x3.toNat (wrap64 (s3 + t)) = finF (T.take (i + 1)) (X3.take (i + 1)) (fun _ => 0)) := ⟨by rw [hws, HS3.out, HSS.out]⟩
          rw [HS3.out] at E3
          clear B1 B2 B3 B4 BX hws HSS HS3
          have HH3 : Aside0 (finF (T.take (i + 1)) (X3.take (i + 1)) (fun _ => 0) x3.toNat ≤ day) := ⟨S3.out.held _ _⟩
          generalize wd.setCell ⟨g3, x3.toNat, none⟩ (Value.int .i64 (wrap64 (s3 + t))) = wq at DX E1 E2 E3 E4 ⊢
          clear wd
          go_wp2_with fail
          have ha2 : laws_a2At.f l1 (wrap64 ((i : Int) + 2)) (cut : Int) = some xo := by rw [show wrap64 ((i : Int) + 2) = ((i + 2 : Nat) : Int) by have := HT1.out; unfold wrap64; omega, HEO.out]; exact (at_ok l1 HY1.out (i + 2) cut (by have := HCU.out; omega)).1
          have BX := Aside0.mk (below_drew1 DX.out)
          have B1 := Aside0.mk (blk_drew E1.out)
          have B2 := Aside0.mk (blk_drew E2.out)
          have B3 := Aside0.mk (blk_drew E3.out)
          have B4 := Aside0.mk (blk_drew E4.out)
          clear DX E1 E2 E3 E4
          obtain ⟨s4, hs4⟩ : ∃ s, finF (T.take i) ((ownL l1 cut T.length).take i) (fun _ => 0) xo.toNat = s := ⟨_, rfl⟩
          obtain ⟨sa4, sb4⟩ := fin_bd0 HT2.out HT1.out ((ownL l1 cut T.length).take i) i xo.toNat
          rw [hs4] at sa4 sb4
          have z4 := RowAt.cell B4.out (k := xo.toNat) (by omega)
          have zf4 := blk_frozen B4.out xo.toNat
          rw [hs4] at z4
          have HSS := Aside0.mk hs4
          clear hs4
          have y0 := cellUp BX.out Q0.out
          have BC := Kd.C_below (Kd.C_below HR1.out HX13.out) BX.out
          refine start_ (n := 15) (S := fun w' => w'.cell? (ad0.add i) = some (.int .i64 t) ∧ w'.cell? ⟨g4, xo.toNat, none⟩ = some (.int .i64 s4)) (ds := [14]) #[false, false, false, false, false, false, false, false, false, false, false, false, false, false, false] (by kernel_rfl) rfl rfl ⟨y0, z4⟩ (fun hHeld => ?_)
          refine with_tabW oshTab.tab30 oshTab.bits30 (fun HT_ HW_ => ?_)
          generalize wq.drew = wd at BX B1 B2 B3 B4 z4 zf4 hHeld BC ⊢
          refine pure_ (i := 0) (N := some 356) (v := ?_) (a' := ?_) #[true, false, false, false, false, false, false, false, false, false, false, false, false, false, false] rfl rfl (any_of HT_.out (by kernel_rfl)) (fun _ _ _ h => h) (Or.inl ⟨by rfl, ?_⟩) ?_ ?_
          rotate_left
          · intro w'
            go_simp
            with_reducible rfl
          rotate_left
          · simp only [Act.put, List.setIfInBounds_toArray, List.set_cons_zero, List.set_cons_succ, i64_w, i32_w]
            rfl
          refine pure_ (i := 1) (N := some 357) (v := ?_) (a' := ?_) #[true, true, false, false, false, false, false, false, false, false, false, false, false, false, false] rfl rfl (any_of HT_.out (by kernel_rfl)) (fun _ _ _ h => h) (Or.inl ⟨by rfl, ?_⟩) ?_ ?_
          rotate_left
          · intro w'
            go_simp
            with_reducible rfl
          rotate_left
          · simp only [Act.put, List.setIfInBounds_toArray, List.set_cons_zero, List.set_cons_succ, i64_w, i32_w]
            rfl
          refine pure_ (i := 2) (N := some 358) (v := ?_) (a' := ?_) #[true, true, true, false, false, false, false, false, false, false, false, false, false, false, false] rfl rfl (any_of HT_.out (by kernel_rfl)) (fun _ _ _ h => h) (Or.inl ⟨by rfl, ?_⟩) ?_ ?_
          rotate_left
          · intro w'
            go_simp
            with_reducible rfl
          rotate_left
          · simp only [Act.put, List.setIfInBounds_toArray, List.set_cons_zero, List.set_cons_succ, i64_w, i32_w]
            rfl
          refine pure_ (i := 3) (N := some 359) (v := ?_) (a' := ?_) #[true, true, true, true, false, false, false, false, false, false, false, false, false, false, false] rfl rfl (any_of HT_.out (by kernel_rfl)) (fun _ _ _ h => h) (Or.inl ⟨by rfl, ?_⟩) ?_ ?_
          rotate_left
          · intro w'
            go_simp
            with_reducible rfl
          rotate_left
          · simp only [Act.put, List.setIfInBounds_toArray, List.set_cons_zero, List.set_cons_succ, i64_w, i32_w]
            rfl
          refine pure_ (i := 4) (N := some 360) (v := ?_) (a' := ?_) #[true, true, true, true, true, false, false, false, false, false, false, false, false, false, false] rfl rfl (any_of HT_.out (by kernel_rfl)) (fun _ _ _ h => h) (Or.inl ⟨by rfl, ?_⟩) ?_ ?_
          rotate_left
          · intro w'
            go_simp
            with_reducible rfl
          rotate_left
          · simp only [Act.put, List.setIfInBounds_toArray, List.set_cons_zero, List.set_cons_succ, i64_w, i32_w]
            rfl
          refine pure_ (i := 8) (N := some 364) (v := ?_) (a' := ?_) #[true, true, true, true, true, false, false, false, true, false, false, false, false, false, false] rfl rfl (any_of HT_.out (by kernel_rfl)) (fun _ _ _ h => h) (Or.inl ⟨by rfl, ?_⟩) ?_ ?_
          rotate_left
          · intro w'
            go_simp
            with_reducible rfl
          rotate_left
          · simp only [Act.put, List.setIfInBounds_toArray, List.set_cons_zero, List.set_cons_succ, i64_w, i32_w]
            rfl
          refine pure_ (i := 9) (N := some 365) (v := ?_) (a' := ?_) #[true, true, true, true, true, false, false, false, true, true, false, false, false, false, false] rfl rfl (any_of HT_.out (by kernel_rfl)) (fun _ _ _ h => h) (Or.inl ⟨by rfl, ?_⟩) ?_ ?_
          rotate_left
          · intro w'
            go_simp
            with_reducible rfl
          rotate_left
          · simp only [Act.put, List.setIfInBounds_toArray, List.set_cons_zero, List.set_cons_succ, i64_w, i32_w]
            rfl
          refine pure_ (i := 10) (N := some 366) (v := ?_) (a' := ?_) #[true, true, true, true, true, false, false, false, true, true, true, false, false, false, false] rfl rfl (any_of HT_.out (by kernel_rfl)) (fun _ _ _ h => h) (Or.inl ⟨by rfl, ?_⟩) ?_ ?_
          rotate_left
          · intro w'
            go_simp
            with_reducible rfl
          rotate_left
          · simp only [Act.put, List.setIfInBounds_toArray, List.set_cons_zero, List.set_cons_succ, i64_w, i32_w]
            rfl
          refine take_ (i := 11) (N := some 367) (v := ?_) (a' := ?_) #[true, true, true, true, true, false, false, false, true, true, true, true, false, false, false] rfl rfl (take_ofW HT_.out HW_.out (by kernel_rfl)) (fun _ _ _ h => h) (Or.inl ⟨by rfl, ?_⟩) hHeld ?_ ?_
          rotate_left
          · rintro w' ⟨s0, s1⟩
            go_simp
            with_reducible rfl
          rotate_left
          · simp only [Act.put, List.setIfInBounds_toArray, List.set_cons_zero, List.set_cons_succ, i64_w, i32_w]
            rfl
          refine one_ (i := 5) (N := some 361) #[true, true, true, true, true, true, false, false, true, true, true, true, false, false, false] rfl rfl (one_of HT_.out (by kernel_rfl)) (by decide) (fun K hK => ?_)
          refine goes_ Try.func6 (by kernel_rfl) rfl #[.slice A1 l1.length c1, .int .i64 (wrap64 ((i : Int) + 2)), .int .i64 (cut : Int)] (by rfl) rfl rfl (by simp only [List.map_toArray, List.map_cons, List.map_nil]; rfl) ?_
          with_reducible refine (laws_a2At.calls A1 c1 l1 (wrap64 ((i : Int) + 2)) (cut : Int) xo _ BC HC1.out ha2).mono ?_
          rintro e w9 ⟨rfl, ⟨⟨m9, rfl⟩⟩⟩
          refine ⟨_, rfl, ?_⟩
          refine hK.out _ _ ⟨hHeld.1, hHeld.2⟩ (fun hHeld => ?_)
          clear hK K
          refine norm_ (a' := ?_) ?_ ?_
          rotate_left
          · show Act.put _ (some 361) _ = _
            simp only [Act.put, List.setIfInBounds_toArray, List.set_cons_zero, List.set_cons_succ, i64_w, i32_w]
            rfl
          refine pure_ (i := 6) (N := some 362) (v := ?_) (a' := ?_) #[true, true, true, true, true, true, true, false, true, true, true, true, false, false, false] rfl rfl (any_of HT_.out (by kernel_rfl)) (fun _ _ _ h => h) (Or.inl ⟨by rfl, ?_⟩) ?_ ?_
          rotate_left
          · intro w'
            go_simp
            with_reducible rfl
          rotate_left
          · simp only [Act.put, List.setIfInBounds_toArray, List.set_cons_zero, List.set_cons_succ, i64_w, i32_w]
            rfl
          refine take_ (i := 7) (N := some 363) (v := ?_) (a' := ?_) #[true, true, true, true, true, true, true, true, true, true, true, true, false, false, false] rfl rfl (take_ofW HT_.out HW_.out (by kernel_rfl)) (fun _ _ _ h => h) (Or.inl ⟨by rfl, ?_⟩) hHeld ?_ ?_
          rotate_left
          · rintro w' ⟨s0, s1⟩
            go_simp
            with_reducible rfl
          rotate_left
          · simp only [Act.put, List.setIfInBounds_toArray, List.set_cons_zero, List.set_cons_succ, i64_w, i32_w]
            rfl
          refine pure_ (i := 12) (N := some 368) (v := ?_) (a' := ?_) #[true, true, true, true, true, true, true, true, true, true, true, true, true, false, false] rfl rfl (any_of HT_.out (by kernel_rfl)) (fun _ _ _ h => h) (Or.inl ⟨by rfl, ?_⟩) ?_ ?_
          rotate_left
          · intro w'
            go_simp
            with_reducible rfl
          rotate_left
          · simp only [Act.put, List.setIfInBounds_toArray, List.set_cons_zero, List.set_cons_succ, i64_w, i32_w]
            rfl
          refine pure_ (i := 13) (N := some 369) (v := ?_) (a' := ?_) #[true, true, true, true, true, true, true, true, true, true, true, true, true, true, false] rfl rfl (any_of HT_.out (by kernel_rfl)) (fun _ _ _ h => h) (Or.inl ⟨by rfl, ?_⟩) ?_ ?_
          rotate_left
          · intro w'
            go_simp
            with_reducible rfl
          rotate_left
          · simp only [Act.put, List.setIfInBounds_toArray, List.set_cons_zero, List.set_cons_succ, i64_w, i32_w]
            rfl
          refine last_ (i := 14) (N := none) #[true, true, true, true, true, true, true, true, true, true, true, true, true, true, true] rfl rfl (one_of HT_.out (by kernel_rfl)) (by decide) (fun K hK => ?_)
          refine skip_ (w1 := ?_) (by rfl) rfl ?_ ?_
          rotate_left
          · go_simp
            rfl
          refine hK.out _ _ ?_
          clear hK K
          refine done_ (done_of HT_.out (by kernel_rfl)) ?_
          clear ha2
          clear hHeld HT_ HW_ y0 z4 zf4
          clear BC
          clear hHeld
          replace BX := Aside0.mk (pw_below_drewN BX.out m9)
          replace B1 := Aside0.mk (blk_drewN B1.out m9)
          replace B2 := Aside0.mk (blk_drewN B2.out m9)
          replace B3 := Aside0.mk (blk_drewN B3.out m9)
          replace B4 := Aside0.mk (blk_drewN B4.out m9)
          generalize wd.drewN m9 = we at BX B1 B2 B3 B4 ⊢
          have hws : wrap64 (s4 + t) = s4 + t := by unfold wrap64; omega
          have E1 := Aside0.mk (blk_far (p := ⟨g4, xo.toNat, none⟩) B1.out (by have := KG.out; show g1 ≠ g4; omega) (.int .i64 (wrap64 (s4 + t))))
          have E2 := Aside0.mk (blk_far (p := ⟨g4, xo.toNat, none⟩) B2.out (by have := KG.out; show g2 ≠ g4; omega) (.int .i64 (wrap64 (s4 + t))))
          have E3 := Aside0.mk (blk_far (p := ⟨g4, xo.toNat, none⟩) B3.out (by have := KG.out; show g3 ≠ g4; omega) (.int .i64 (wrap64 (s4 + t))))
          have E4 := Aside0.mk (RowAt.put B4.out (k := xo.toNat) (by omega) (wrap64 (s4 + t)))
          have DX := Aside0.mk (below_set (j := xo.toNat) (v := (.int .i64 (wrap64 (s4 + t)))) BX.out (by have := KG.out; omega : w13.heap.size ≤ g4))
          replace HS4 : Aside0 (Pure.up (finF (T.take i) ((ownL l1 cut T.length).take i) (fun _ => 0)) xo.toNat (wrap64 (s4 + t)) = finF (T.take (i + 1)) ((ownL l1 cut T.length).take (i + 1)) (fun _ => 0)) := ⟨by rw [hws, HS4.out, HSS.out]⟩
          rw [HS4.out] at E4
          clear B1 B2 B3 B4 BX hws HSS HS4
          generalize we.setCell ⟨g4, xo.toNat, none⟩ (Value.int .i64 (wrap64 (s4 + t))) = wq at DX E1 E2 E3 E4 ⊢
          clear we wd
          have q3 := cellUp DX.out Q3.out
          have z3 := RowAt.cell E3.out (k := x3.toNat) (by omega)
          have hz3 := HH3.out
          generalize finF (T.take (i + 1)) (X3.take (i + 1)) (fun _ => 0) x3.toNat = v3 at z3 hz3
          have e3 : decide (day < v3) = false := decide_eq_false (by omega)
          have e4 : decide (day ≥ v3) = true := decide_eq_true (by omega)
          clear hz3 q0
          go_wp2_with fail
          have HJ1 : Aside0 (wrap64 ((i : Int) + 1) = ((i + 1 : Nat) : Int)) := ⟨by have := HT1.out; unfold wrap64; omega⟩
          go_roundg (T.length - (i + 1))
          case measure => omega
          case rel => exact ⟨i + 1, m2, by omega, by omega, (by rw [HSM.out]), rfl, (by first | rw [HJ1.out] | (simp; done) | rfl), hn0, hn1, hn2, DX, E1, E2, E3, E4⟩
      · have hltz : ¬ (i : Int) < (T.length : Int) := by omega
        obtain rfl : i = T.length := by omega
        clear hi hgi hlt
        rw [List.take_length, List.take_of_length_le (by rw [S1.out.len]; exact Nat.le_refl _)] at R1
        rw [List.take_length, List.take_of_length_le (by rw [S2.out.len]; exact Nat.le_refl _)] at R2
        rw [List.take_length, List.take_of_length_le (by rw [ownL_len]; exact Nat.le_refl _)] at R4
        clear R3
        have hs0 := sum_bd0 T HT2.out
        rw [List.take_length]
        go_wp2_with fail
        have hf1 : mxF (finF T X1 (fun _ => 0)) cut = M1 := mxF_is _ _ _ S1.out.v0 S1.out.most S1.out.hit
        have hf2 : mxF (finF T X2 (fun _ => 0)) cut = M2 := mxF_is _ _ _ S2.out.v0 S2.out.most S2.out.hit
        have hf4 : M2 ≤ mxF (finF T (ownL l1 cut T.length) (fun _ => 0)) cut := S2.out.least (ownL l1 cut T.length) _ rfl (ownL_len _ _ _) (ownL_mem HY1.out HCU.out.1 _) (fun k hk => mxF_ge _ _ k hk) (mxF_0 _ _)
        have HF1 := Aside0.mk hf1
        have HF2 := Aside0.mk hf2
        have HF4 := Aside0.mk hf4
        clear hf1 hf2 hf4
        have hM1 : M1 ≤ 240 := by
          rcases S1.out.hit with e | ⟨k, _, e⟩
          · omega
          · have := fin_bd0 HT2.out HT1.out X1 T.length k; rw [List.take_length] at this; omega
        have hM2 : M2 ≤ 240 := by
          rcases S2.out.hit with e | ⟨k, _, e⟩
          · omega
          · have := fin_bd0 HT2.out HT1.out X2 T.length k; rw [List.take_length] at this; omega
        have hb1 : ∀ k, 0 ≤ finF T X1 (fun _ => 0) k := fun k => by have := fin_bd0 HT2.out HT1.out X1 T.length k; rw [List.take_length] at this; exact this.1
        have HM1 := Aside0.mk hM1
        have HM2 := Aside0.mk hM2
        clear hb1
        obtain ⟨ws, hws⟩ : ∃ ws, ws = wr := ⟨_, rfl⟩
        subst hws
        go_loopg [33, 34, 35, 36] cut (fun gg v33 v34 v35 v36 wk => ∃ k : Nat, k ≤ cut ∧ cut - k ≤ gg ∧ v33 = .int .i64 (mxF (finF T X1 (fun _ => 0)) k) ∧ v34 = .int .i64 (mxF (finF T X2 (fun _ => 0)) k) ∧ v35 = .int .i64 (mxF (finF T (ownL l1 cut T.length) (fun _ => 0)) k) ∧ v36 = .int .i64 k ∧ wk = ws)
        case atStart => exact ⟨0, Nat.zero_le _, by omega, rfl, rfl, rfl, rfl, rfl⟩
        case round => as_aux_lemma =>
          obtain ⟨k, hk, hgk2, rfl, rfl, rfl, rfl, hwk⟩ := hrel
          obtain rfl : ws = wr := hwk.symm
          clear hwk
          by_cases hlt : k < cut
          · have hltz : (k : Int) < (cut : Int) := by omega
            have z1 := RowAt.cell R1.out hlt
            have z2 := RowAt.cell R2.out hlt
            have z4 := RowAt.cell R4.out hlt
            have HA1 : Aside0 (mxF (finF T X1 (fun _ => 0)) (k + 1) = max (mxF (finF T X1 (fun _ => 0)) k) (finF T X1 (fun _ => 0) k)) := ⟨rfl⟩
            have HA2 : Aside0 (mxF (finF T X2 (fun _ => 0)) (k + 1) = max (mxF (finF T X2 (fun _ => 0)) k) (finF T X2 (fun _ => 0) k)) := ⟨rfl⟩
            have HA4 : Aside0 (mxF (finF T (ownL l1 cut T.length) (fun _ => 0)) (k + 1) = max (mxF (finF T (ownL l1 cut T.length) (fun _ => 0)) k) (finF T (ownL l1 cut T.length) (fun _ => 0) k)) := ⟨rfl⟩
            generalize mxF (finF T X1 (fun _ => 0)) k = a1 at HA1
            generalize mxF (finF T X2 (fun _ => 0)) k = a2 at HA2
            generalize mxF (finF T (ownL l1 cut T.length) (fun _ => 0)) k = a4 at HA4
            generalize finF T X1 (fun _ => 0) k = b1 at HA1 z1
            generalize finF T X2 (fun _ => 0) k = b2 at HA2 z2
            generalize finF T (ownL l1 cut T.length) (fun _ => 0) k = b4 at HA4 z4
            go_upto_region 39 with fail
            go_cut [33] (fun vx wc => vx = .int .i64 (max a1 b1) ∧ wc = ws)
            case first =>
              rcases Int.lt_trichotomy a1 b1 with hle | hle | hle
              · have e1 : decide (a1 ≤ b1) = true := decide_eq_true (by omega)
                have e2 : decide (a1 < b1) = true := decide_eq_true (by omega)
                have e3 : decide (b1 ≤ a1) = false := decide_eq_false (by omega)
                have e4 : decide (b1 < a1) = false := decide_eq_false (by omega)
                go_wp2_with fail
                go_meet
                case rel => exact ⟨by first | rfl | (simp; done) | (congr 1; omega), rfl⟩
              · subst hle
                go_wp2_with fail
                go_meet
                case rel => exact ⟨by first | rfl | (simp; done) | (congr 1; omega), rfl⟩
              · have e1 : decide (a1 ≤ b1) = false := decide_eq_false (by omega)
                have e2 : decide (a1 < b1) = false := decide_eq_false (by omega)
                have e3 : decide (b1 ≤ a1) = true := decide_eq_true (by omega)
                have e4 : decide (b1 < a1) = true := decide_eq_true (by omega)
                go_wp2_with fail
                go_meet
                case rel => exact ⟨by first | rfl | (simp; done) | (congr 1; omega), rfl⟩
            case rest =>
            obtain ⟨rfl, hwc⟩ := hcut
            obtain rfl : ws = wc := hwc.symm
            clear hwc
            go_upto_region 40 with fail
            go_cut [34] (fun vx wc => vx = .int .i64 (max a2 b2) ∧ wc = ws)
            case first =>
              rcases Int.lt_trichotomy a2 b2 with hle | hle | hle
              · have e1 : decide (a2 ≤ b2) = true := decide_eq_true (by omega)
                have e2 : decide (a2 < b2) = true := decide_eq_true (by omega)
                have e3 : decide (b2 ≤ a2) = false := decide_eq_false (by omega)
                have e4 : decide (b2 < a2) = false := decide_eq_false (by omega)
                go_wp2_with fail
                go_meet
                case rel => exact ⟨by first | rfl | (simp; done) | (congr 1; omega), rfl⟩
              · subst hle
                go_wp2_with fail
                go_meet
                case rel => exact ⟨by first | rfl | (simp; done) | (congr 1; omega), rfl⟩
              · have e1 : decide (a2 ≤ b2) = false := decide_eq_false (by omega)
                have e2 : decide (a2 < b2) = false := decide_eq_false (by omega)
                have e3 : decide (b2 ≤ a2) = true := decide_eq_true (by omega)
                have e4 : decide (b2 < a2) = true := decide_eq_true (by omega)
                go_wp2_with fail
                go_meet
                case rel => exact ⟨by first | rfl | (simp; done) | (congr 1; omega), rfl⟩
            case rest =>
            obtain ⟨rfl, hwc⟩ := hcut
            obtain rfl : ws = wc := hwc.symm
            clear hwc
            have HJ1 : Aside0 (wrap64 ((k : Int) + 1) = ((k + 1 : Nat) : Int)) := ⟨by have := HCU.out; unfold wrap64; omega⟩
            rcases Int.lt_trichotomy a4 b4 with hle | hle | hle
            · have e1 : decide (a4 ≤ b4) = true := decide_eq_true (by omega)
              have e2 : decide (a4 < b4) = true := decide_eq_true (by omega)
              have e3 : decide (b4 ≤ a4) = false := decide_eq_false (by omega)
              have e4 : decide (b4 < a4) = false := decide_eq_false (by omega)
              have HMX : Aside0 (max a4 b4 = b4) := ⟨by omega⟩
              go_wp2_with fail
              go_roundg (cut - (k + 1))
              case measure => omega
              case rel => exact ⟨k + 1, by omega, by omega, by rw [HA1.out], by rw [HA2.out], by rw [HA4.out, HMX.out], (by first | rw [HJ1.out] | (simp; done) | rfl), rfl⟩
            · subst hle
              have HMX : Aside0 (max a4 a4 = a4) := ⟨by omega⟩
              go_wp2_with fail
              go_roundg (cut - (k + 1))
              case measure => omega
              case rel => exact ⟨k + 1, by omega, by omega, by rw [HA1.out], by rw [HA2.out], by rw [HA4.out, HMX.out], (by first | rw [HJ1.out] | (simp; done) | rfl), rfl⟩
            · have e1 : decide (a4 ≤ b4) = false := decide_eq_false (by omega)
              have e2 : decide (a4 < b4) = false := decide_eq_false (by omega)
              have e3 : decide (b4 ≤ a4) = true := decide_eq_true (by omega)
              have e4 : decide (b4 < a4) = true := decide_eq_true (by omega)
              have HMX : Aside0 (max a4 b4 = a4) := ⟨by omega⟩
              go_wp2_with fail
              go_roundg (cut - (k + 1))
              case measure => omega
              case rel => exact ⟨k + 1, by omega, by omega, by rw [HA1.out], by rw [HA2.out], by rw [HA4.out, HMX.out], (by first | rw [HJ1.out] | (simp; done) | rfl), rfl⟩
          · have hltz : ¬ (k : Int) < (cut : Int) := by omega
            obtain rfl : k = cut := by omega
            rw [HF1.out, HF2.out]
            generalize mxF (finF T (ownL l1 k T.length) (fun _ => 0)) k = m4 at HF4
            have f4 := HF4.out
            have t4 : decide (m4 < M2) = false := decide_eq_false (by omega)
            have t5 : decide (M2 < mx) = false := decide_eq_false (by omega)
            obtain ⟨pr, hpr⟩ : ∃ p, M2 * (k : Int) = p := ⟨_, rfl⟩
            obtain ⟨ps, hps⟩ : ∃ p, N3 * day = p := ⟨_, rfl⟩
            have hk1 : wrap64 (M2 * (k : Int)) = pr := by
              have h1 := HCU.out
              have h2 := HM2.out
              have h3 : 0 ≤ M2 * (k : Int) := Int.mul_nonneg S2.out.v0 (by omega)
              have h4 : M2 * (k : Int) ≤ 240 * 4 := Int.mul_le_mul h2 (by omega) (by omega) (by omega)
              unfold wrap64
              omega
            have hk2 : wrap64 (N3 * day) = ps := by
              have h1 := HDY.out
              have h2 := S3.out.n0
              have h5 := HT1.out
              have h3 : 0 ≤ N3 * day := Int.mul_nonneg h2.1 (by omega)
              have h4 : N3 * day ≤ 6 * 99 := Int.mul_le_mul (by omega) (by omega) (by omega) (by omega)
              unfold wrap64
              omega
            have t6 : decide (pr < sumL T) = false := decide_eq_false (by have := S2.out.all; omega)
            have t7 : decide (ps < sumL T) = false := decide_eq_false (by have := S3.out.all; omega)
            clear hpr hps
            have HK1 := Aside0.mk hs0
            clear hs0 f4
            generalize sumL T = smT at t6 t7
            have HWB := Aside0.mk (below_step HX13.out HX.out)
            have CT := Aside0.mk (Kd.C_below CT13.out HX.out)
            have CU := Aside0.mk (Kd.C_below HR1.out HWB.out)
            clear HX CT13 CL5 CL6 CL7 CL8 CL9 CL10 HX13 R1 R2 R4 HF1 HF2 HF4 HK1 HM1 HM2 hm0 hm1 hm2 hlt hltz hk hgk2 KG
            go_wp2_with (first | ((with_reducible refine gate_dst (N := 434) rfl ?_); refine Kd.R_lit (Kd.int .i64) _ 2 ?hg (N := 434) ?hd (xs := ([] : List Int)) (inner := []) (ok := fun _ => True) (okp := fun _ => True) ?hr ?hp (fun _ hk => hk) trivial (Below.refl _ _) (Nat.le_refl _) (by simp) ?_; (case hd => rfl); (case hg => rfl); (case hr => first | (go_simp; done) | (go_simp; rfl)); (case hp => exact (Reps.none _ _)); intro v37 wa ho hb hg_ hnew_; clear hg_ hnew_; have HO := Aside0.mk ho; have HB := Aside0.mk hb; clear ho hb))
            clear t4 t5 t6 t7 hk1 hk2
            go_loopg [37, 38] T.length (fun gg v37 v38 wr => ∃ i : Nat, i ≤ T.length ∧ T.length - i ≤ gg ∧ v38 = .int .i64 i ∧ Aside0 (Kd.R (Kd.int .i64) 2 wr ws.heap.size (fun _ => True) v37 (dueL l1 i)) ∧ Aside0 (Below ws.heap.size ws wr))
            case atStart => exact ⟨0, Nat.zero_le _, by omega, rfl, HO, HB⟩
            case round => as_aux_lemma =>
              clear HO HB
              obtain ⟨i, hi, hgi, rfl, HO, HB⟩ := hrel
              by_cases hlt : i < T.length
              · have hltz : (i : Int) < (T.length : Int) := by omega
                obtain ⟨xo, hxo⟩ : ∃ x, atF l1 ((i + 20 : Nat) : Int) 120 = x := ⟨_, rfl⟩
                have ha : laws_a2At.f l1 (wrap64 ((i : Int) + 20)) 120 = some xo := by rw [show wrap64 ((i : Int) + 20) = ((i + 20 : Nat) : Int) by have := HT1.out; unfold wrap64; omega, ← hxo]; exact (at_ok l1 HY1.out (i + 20) 120 (by omega)).1
                have HA := Aside0.mk ha
                have HD1 := Aside0.mk (dueL_succ l1 i)
                rw [hxo] at HD1
                have HDL := Aside0.mk (dueL_len l1 i)
                clear ha hxo
                go_wp2_with (first | ((with_reducible refine gate_callee (f := 6) rfl ?_); refine goesL_ (some 445) rfl rfl Try.func6 (by kernel_rfl) rfl #[.slice A1 l1.length c1, .int .i64 (wrap64 ((i : Int) + 20)), .int .i64 120] rfl (by (try simp only [List.map_toArray, List.map_cons, List.map_nil]); first | done | rfl | (simp only [List.length_drop, List.length_take]; rfl)) ?_; (with_reducible refine (laws_a2At.calls A1 c1 l1 (wrap64 ((i : Int) + 20)) 120 xo wr (Kd.C_below CU.out HB.out) HC1.out HA.out).mono ?_); rintro e w9 ⟨rfl, ⟨⟨m1, rfl⟩⟩⟩; refine ⟨_, rfl, ?_⟩; have n0_ := Aside0.mk (Kd.R_drewN HO.out m1); have n1_ := Aside0.mk (pw_below_drewN HB.out m1); clear HO HB; generalize wr.drewN m1 = wd at n0_ n1_ ⊢) | ((with_reducible refine gate_builtin (b := .append) (xs := #[.tmp 441, .tmp 446]) rfl ?_); (at_builtin; refine Kd.R_append (Kd.int .i64) (w0 := ws) ws.heap.size rfl (.tmp 441) (.tmp 446) 24 2 (.int .i64 0) 8 rfl Try.underlying24 info_i64 rfl (by decide) (by omega) u37 (dueL l1 i) xo [.int .i64 xo] (fun _ => True) (fun _ => False) rfl rfl ?aP (fun _ hk => hk.elim) ?aF ?aO ?aB ?aS ?aL ?_; (case aP => exact rfl); (case aB => exact n1_.out); (case aF => exact (fun _ _ => trivial)); (case aO => exact n0_.out); (case aS => exact below_size n1_.out); (case aL => have := HDL.out; have := HT1.out; omega); intro v291 w12 ho hb hg hat; rw [← HD1.out] at ho; have HO := Aside0.mk ho; have HB := Aside0.mk hb; clear ho hb hg hat)))
                have HJ1 : Aside0 (wrap64 ((i : Int) + 1) = ((i + 1 : Nat) : Int)) := ⟨by have := HT1.out; unfold wrap64; omega⟩
                go_roundg (T.length - (i + 1))
                case measure => omega
                case rel => exact ⟨i + 1, by omega, by omega, (by first | rw [HJ1.out] | (simp; done) | rfl), HO, HB⟩
              · have hltz : ¬ (i : Int) < (T.length : Int) := by omega
                obtain rfl : i = T.length := by omega
                have hdl := dueL_len l1 T.length
                have hdm := dueL_mem HY1.out T.length
                generalize dueL l1 T.length = D at HO hdl hdm
                obtain ⟨KL, LL, hLL, fl, gl⟩ := late_ex T D HTB.out (by have := HT1.out; omega) hdl (fun x hx => by have := hdm x hx; omega)
                have HFL := Aside0.mk fl
                have HGL := Aside0.mk gl
                have HLL := Aside0.mk hLL
                have HDL := Aside0.mk hdl
                have HDM := Aside0.mk hdm
                obtain ⟨Ad, cd, rfl⟩ := Kd.R_slice HO.out
                have CD := Aside0.mk (Kd.R_reads' HO.out).2.2
                have HCD := Aside0.mk (Kd.R_reads' HO.out).2.1
                have CT1 := Aside0.mk (Kd.C_below CT.out HB.out)
                have X1_ := Aside0.mk (below_step HWB.out HB.out)
                clear HO HB CT CU HWB fl gl hLL hdl hdm hlt hltz hi hgi
                go_wp2_with fail
                refine (impl_LateLines.calls KL At ct T Ad cd D LL 0 wr CT1.out HCT.out CD.out HCD.out HFL.out).mono ?_
                rintro e w1 ⟨v5, rfl, ho, hb⟩
                obtain ⟨A5, c5, rfl⟩ := Kd.R_slice ho
                have X2_ := Aside0.mk (below_step X1_.out hb)
                have CT2 := Aside0.mk (Kd.C_below CT1.out hb)
                have CD2 := Aside0.mk (Kd.C_below CD.out hb)
                have CI := Aside0.mk (Kd.R_reads' ho).2.2
                have HCI := Aside0.mk (Kd.R_reads' ho).2.1
                clear ho hb X1_ CT1 CD
                dsimp only
                go_wp2_with fail
                refine (spec_LateLines.calls KL At ct T Ad cd D LL 0 w1 CT2.out HCT.out CD2.out HCD.out HGL.out).mono ?_
                rintro e w2 ⟨v6, rfl, ho, hb⟩
                obtain ⟨A6, c6, rfl⟩ := Kd.R_slice ho
                have X3_ := Aside0.mk (below_step X2_.out hb)
                have CT3 := Aside0.mk (Kd.C_below CT2.out hb)
                have CD3 := Aside0.mk (Kd.C_below CD2.out hb)
                have CI3 := Aside0.mk (Kd.C_below CI.out hb)
                have CK3 := Aside0.mk (Kd.R_reads' ho).2.2
                have HCK := Aside0.mk (Kd.R_reads' ho).2.1
                clear ho hb X2_ CT2 CD2 CI
                have hll : LL.length ≤ 6 := by rw [HLL.out]; have := lateL_len T D 0 (upto T.length); rw [upto_len] at this; have := HT1.out; omega
                have HLN := Aside0.mk hll
                clear hll
                dsimp only
                go_wp2_with fail
                obtain ⟨Ks, hsm⟩ : ∃ K, spec_A2Same.f K LL LL = some true := ⟨LL.length + 1, same_ok LL (by have := HLN.out; omega) (by omega)⟩
                refine (spec_A2Same.calls Ks A5 c5 LL A6 c6 LL true w2 CI3.out HCI.out CK3.out HCK.out hsm).mono ?_
                rintro e w3 ⟨rfl, hd⟩
                have X4_ := Aside0.mk (below_step X3_.out hd.below)
                have CT4 := Aside0.mk (Kd.C_below CT3.out hd.below)
                have CD4 := Aside0.mk (Kd.C_below CD3.out hd.below)
                have CK4 := Aside0.mk (Kd.C_below CK3.out hd.below)
                clear hd hsm X3_ CT3 CD3 CI3 CK3
                dsimp only
                go_wp2_with fail
                go_loopg [43, 44] T.length (fun gg v43 v44 wr => ∃ i : Nat, i ≤ T.length ∧ T.length - i ≤ gg ∧ v43 = .int .i64 (sumL (T.take i)) ∧ v44 = .int .i64 i ∧ Aside0 (Below w3.heap.size w3 wr))
                case atStart => exact ⟨0, Nat.zero_le _, by omega, rfl, rfl, ⟨Below.refl _ _⟩⟩
                case round => as_aux_lemma =>
                  obtain ⟨i, hi, hgi, rfl, rfl, HB⟩ := hrel
                  by_cases hlt : i < T.length
                  · have hltz : (i : Int) < (T.length : Int) := by omega
                    have hdl : i < D.length := by rw [HDL.out]; exact hlt
                    obtain ⟨pta, ptb⟩ := HT2.out _ (rd_mem2 T i hlt)
                    obtain ⟨pda, pdb⟩ := HDM.out _ (rd_mem2 D i hdl)
                    have HSM := Aside0.mk (sumL_take T i hlt)
                    obtain ⟨ps0, ps1⟩ := sum_bd0 (T.take i) (fun y hy => HT2.out y (List.mem_of_mem_take hy))
                    have ps2 : sumL (T.take i) ≤ 240 := by have := HT1.out; simp only [List.length_take] at ps1; omega
                    clear ps1
                    have hh := has_ok (k := LL.length + 1) LL (i : Int) (by have := HLN.out; omega) (by omega)
                    rw [show (LL.any fun y => (i : Int) == y) = decide (rd D (i : Int) < sumL (T.take (i + 1))) by rw [HLL.out]; exact late_has T D HTB.out (by have := HT1.out; omega) i hlt] at hh
                    rw [HSM.out] at hh
                    obtain ⟨ad0, e0, q0⟩ := at_nat (Kd.C_below CT4.out HB.out) hlt
                    obtain ⟨ad1, e1, q1⟩ := at_nat (Kd.C_below CD4.out HB.out) hdl
                    subst e0 e1
                    have CK := Aside0.mk (Kd.C_below CK4.out HB.out)
                    generalize rd T (i : Int) = t at pta ptb HSM hh q0
                    generalize rd D (i : Int) = d at pda pdb hh q1
                    generalize sumL (T.take i) = sm at HSM ps0 ps2 hh
                    have HJ1 : Aside0 (wrap64 ((i : Int) + 1) = ((i + 1 : Nat) : Int)) := ⟨by have := HT1.out; unfold wrap64; omega⟩
                    by_cases hc : d < sm + t
                    · rw [decide_eq_true hc] at hh
                      have HH := Aside0.mk hh
                      have hcb : decide (d < sm + t) = true := decide_eq_true hc
                      clear hh hc
                      go_wp2_with fail
                      go_quiet (first | (go_at_call 16; exact Calls.quiet_of ((spec_A2Has.calls (LL.length + 1) A6 c6 LL (i : Int) true _ (Kd.C_drewN CK.out _) HCK.out HH.out).mono fun e_ w_ h_ => ⟨h_.1, h_.2.out⟩)))
                      go_wp2_with fail
                      go_roundg (T.length - (i + 1))
                      case measure => omega
                      case rel => exact ⟨i + 1, by omega, by omega, (by rw [HSM.out]), (by first | rw [HJ1.out] | (simp; done) | rfl), ⟨pw_below_drewN HB.out _⟩⟩
                    · rw [decide_eq_false hc] at hh
                      have HH := Aside0.mk hh
                      have hcb : decide (d < sm + t) = false := decide_eq_false hc
                      clear hh hc
                      go_wp2_with fail
                      go_quiet (first | (go_at_call 16; exact Calls.quiet_of ((spec_A2Has.calls (LL.length + 1) A6 c6 LL (i : Int) false _ (Kd.C_drewN CK.out _) HCK.out HH.out).mono fun e_ w_ h_ => ⟨h_.1, h_.2.out⟩)))
                      go_wp2_with fail
                      go_roundg (T.length - (i + 1))
                      case measure => omega
                      case rel => exact ⟨i + 1, by omega, by omega, (by rw [HSM.out]), (by first | rw [HJ1.out] | (simp; done) | rfl), ⟨pw_below_drewN HB.out _⟩⟩
                  · have hltz : ¬ (i : Int) < (T.length : Int) := by omega
                    obtain rfl : i = T.length := by omega
                    clear hlt hltz hi hgi
                    have CT := Aside0.mk (Kd.C_below CT4.out HB.out)
                    have CD := Aside0.mk (Kd.C_below CD4.out HB.out)
                    have X5_ := Aside0.mk (below_step X4_.out HB.out)
                    clear CT4 CD4 CK4 HB X4_
                    by_cases h5 : T.length ≤ 5
                    · have h5b : decide (5 < (T.length : Int)) = false := decide_eq_false (by omega)
                      have h5c : decide (5 < T.length) = false := decide_eq_false (by omega)
                      clear h5
                      obtain ⟨KF, X, M, hfw, ff, gf⟩ := few_ex T D HTB.out (by have := HT1.out; omega) HDL.out (fun x hx => by have := HDM.out x hx; omega)
                      have HFW := Aside0.mk hfw
                      have HFF := Aside0.mk ff
                      have HGF := Aside0.mk gf
                      clear hfw ff gf
                      go_wp2_with fail
                      refine (impl_FewestLate.calls At ct T Ad cd D X M 0 wr CT.out HCT.out CD.out HCD.out HFF.out).mono ?_
                      rintro e w1 ⟨v5, rfl, ho, hb⟩
                      obtain ⟨A7, c7, rfl⟩ := Kd.R_slice ho
                      have X6_ := Aside0.mk (below_step X5_.out hb)
                      have CT6 := Aside0.mk (Kd.C_below CT.out hb)
                      have CD6 := Aside0.mk (Kd.C_below CD.out hb)
                      have CO6 := Aside0.mk (Kd.R_reads' ho).2.2
                      have HCO := Aside0.mk (Kd.R_reads' ho).2.1
                      clear ho hb X5_ CT CD
                      dsimp only
                      go_wp2_with fail
                      refine (spec_FewestLate.calls KF At ct T Ad cd D X M 0 w1 CT6.out HCT.out CD6.out HCD.out HGF.out).mono ?_
                      rintro e w2 ⟨v6, rfl, ho, hb⟩
                      obtain ⟨A8, c8, rfl⟩ := Kd.V_slice ho
                      have X7_ := Aside0.mk (below_step X6_.out hb)
                      have CT7 := Aside0.mk (Kd.C_below CT6.out hb)
                      have CD7 := Aside0.mk (Kd.C_below CD6.out hb)
                      have CO7 := Aside0.mk (Kd.C_below CO6.out hb)
                      have CB7 := Aside0.mk (Kd.V_reads' ho).2.2
                      have HCB := Aside0.mk (Kd.V_reads' ho).2.1
                      clear ho hb X6_ CT6 CD6 CO6
                      have hlf : ((LL.length : Int) < M) = False := eq_false (by have := HFW.out.least; have h2 : (lateN T D (upto T.length)) = (LL.length : Int) := (by rw [HLL.out]; rfl); omega)
                      have hlg : decide ((LL.length : Int) < M) = false := decide_eq_false (by rw [hlf]; exact id)
                      have hxl : ((X.length : Int) != (T.length : Int)) = false := bne_eq_false_iff_eq.2 (by rw [HFW.out.len])
                      dsimp only
                      go_wp2_with fail
                      obtain ⟨Ks, hsm⟩ : ∃ K, spec_A2Same.f K X X = some true := ⟨X.length + 1, same_ok X (by have := HFW.out.len; have := HT1.out; omega) (by omega)⟩
                      refine (spec_A2Same.calls Ks A7 c7 X A8 c8 X true w2 CO7.out HCO.out CB7.out HCB.out hsm).mono ?_
                      rintro e w3 ⟨rfl, hd⟩
                      have X8_ := Aside0.mk (below_step X7_.out hd.below)
                      have CT8 := Aside0.mk (Kd.C_below CT7.out hd.below)
                      have CD8 := Aside0.mk (Kd.C_below CD7.out hd.below)
                      have CB8 := Aside0.mk (Kd.C_below CB7.out hd.below)
                      clear hd hsm X7_ CT7 CD7 CB7 CO7
                      dsimp only
                      go_wp2_with (first | ((with_reducible refine gate_dst (N := 543) rfl ?_); refine Kd.R_lit (Kd.int .i64) (w0 := w3) w3.heap.size 2 ?hg (N := 543) ?hd (xs := ([] : List Int)) (inner := []) (ok := fun _ => True) (okp := fun _ => True) ?hr ?hp (fun _ hk => hk) trivial (Below.refl _ _) (Nat.le_refl _) (by simp) ?_; (case hd => rfl); (case hg => rfl); (case hr => first | (go_simp; done) | (go_simp; rfl)); (case hp => exact (Reps.none _ _)); intro v51 wa ho hb hg_ hnew_; have HO1 := Aside0.mk ho; have HB1 := Aside0.mk hb; clear ho hb hg_ hnew_) | ((with_reducible refine gate_dst (N := 544) rfl ?_); refine Kd.R_lit (Kd.int .i64) (w0 := w3) w3.heap.size 2 ?hg (N := 544) ?hd (xs := ([] : List Int)) (inner := []) (ok := fun _ => True) (okp := fun _ => True) ?hr ?hp (fun _ hk => hk) trivial HB1.out (below_size HB1.out) (by simp) ?_; (case hd => rfl); (case hg => rfl); (case hr => first | (go_simp; done) | (go_simp; rfl)); (case hp => exact (Reps.none _ _)); intro v52 wb ho hb hg_ hnew_; have HS := Aside0.mk (sep_symm (sep_fresh (v := .slice none 0 0) (v1 := v52) (u := v51) (fun k hk => by simp [Value.ownBlock] at hk) (Or.inr hnew_) HO1.out)); have HO2 := Aside0.mk ho; have HB2 := Aside0.mk hb; have HO3 := Aside0.mk (Kd.R_grown HO1.out hg_ (fun k _ => by simp)); clear HO1 HB1; clear ho hb hg_ hnew_))
                      clear hlf hlg hxl
                      go_loopg [51, 52, 53] X.length (fun gg v51 v52 v53 wr => ∃ i : Nat, i ≤ X.length ∧ X.length - i ≤ gg ∧ v53 = .int .i64 i ∧ Aside0 (Kd.R (Kd.int .i64) 2 wr w3.heap.size (fun _ => True) v51 (turnL T X i)) ∧ Aside0 (Kd.R (Kd.int .i64) 2 wr w3.heap.size (fun _ => True) v52 (turnL D X i)) ∧ Aside0 (∀ k, v51.ownBlock = some k → some k ≠ v52.ownBlock) ∧ Aside0 (Below w3.heap.size w3 wr))
                      case atStart => exact ⟨0, Nat.zero_le _, by omega, rfl, HO3, HO2, HS, HB2⟩
                      case round => as_aux_lemma =>
                        clear HO3 HO2 HS HB2
                        obtain ⟨i, hi, hgi, rfl, HO1, HO2, HS, HB⟩ := hrel
                        by_cases hlt : i < X.length
                        · have hltz : (i : Int) < (X.length : Int) := by omega
                          have HXL := Aside0.mk HFW.out.len
                          obtain ⟨pxa, pxb⟩ := HFW.out.ind _ (rd_mem2 X i hlt)
                          have pxc : rd X (i : Int) < (D.length : Int) := by rw [HDL.out]; exact pxb
                          have HU1 := Aside0.mk (turnL_succ T X hlt)
                          have HU2 := Aside0.mk (turnL_succ D X hlt)
                          obtain ⟨ad0, e0, q0⟩ := at_nat CB8.out hlt
                          obtain ⟨ad1, e1, q1⟩ := Kd.at_int CT8.out (rd X (i : Int)) pxa pxb
                          obtain ⟨ad2, e2, q2⟩ := Kd.at_int CD8.out (rd X (i : Int)) pxa pxc
                          subst e0 e1 e2
                          generalize rd X (i : Int) = x at pxa pxb pxc HU1 HU2 q0 q1 q2
                          generalize rd T x = t at HU1 q1
                          generalize rd D x = d at HU2 q2
                          have QX := Aside0.mk q0
                          have QD := Aside0.mk q2
                          replace q0 := cellUp HB.out q0
                          replace q1 := cellUp HB.out q1
                          replace q2 := cellUp HB.out q2
                          have e1 : decide (x < 0) = false := decide_eq_false (by omega)
                          have e2 : decide ((T.length : Int) ≤ x) = false := decide_eq_false (by omega)
                          have HJ1 : Aside0 (wrap64 ((i : Int) + 1) = ((i + 1 : Nat) : Int)) := ⟨by have := HT1.out; have := HXL.out; unfold wrap64; omega⟩
                          go_wp2_with (first | ((with_reducible refine gate_builtin (b := .append) (xs := #[.tmp 565, .tmp 573]) rfl ?_); (at_builtin; refine Kd.R_append (Kd.int .i64) (w0 := w3) w3.heap.size rfl (.tmp 565) (.tmp 573) 24 2 (.int .i64 0) 8 rfl Try.underlying24 info_i64 rfl (by decide) (by omega) u51 (turnL T X i) (t) [.int .i64 (t)] (fun _ => True) (fun _ => False) rfl rfl ?aP (fun _ hk => hk.elim) ?aF ?aO ?aB ?aS ?aL ?_; (case aP => exact rfl); (case aB => exact HB.out); (case aF => exact (fun _ _ => trivial)); (case aO => exact HO1.out); (case aS => exact below_size HB.out); (case aL => rw [turnL_len _ _ hi]; have := HFW.out.len; have := HT1.out; omega); intro v51 wx ho hb hg hat; rw [← HU1.out] at ho; have HN1 := Aside0.mk ho; have HM1 := Aside0.mk hb; have HN2 := Aside0.mk (Kd.R_grown2 HO2.out rfl hg HS.out); have HSN := Aside0.mk (sep_fresh HS.out hat HO2.out); have p0 := cellUp hb QX.out; have p1 := cellUp hb QD.out; clear HO1 HO2 HB HS q0 q1 q2; clear ho hb hg hat)) | ((with_reducible refine gate_builtin (b := .append) (xs := #[.tmp 575, .tmp 583]) rfl ?_); (at_builtin; refine Kd.R_append (Kd.int .i64) (w0 := w3) w3.heap.size rfl (.tmp 575) (.tmp 583) 24 2 (.int .i64 0) 8 rfl Try.underlying24 info_i64 rfl (by decide) (by omega) u52 (turnL D X i) (d) [.int .i64 (d)] (fun _ => True) (fun _ => False) rfl rfl ?aP (fun _ hk => hk.elim) ?aF ?aO ?aB ?aS ?aL ?_; (case aP => exact rfl); (case aB => exact HM1.out); (case aF => exact (fun _ _ => trivial)); (case aO => exact HN2.out); (case aS => exact below_size HM1.out); (case aL => rw [turnL_len _ _ hi]; have := HFW.out.len; have := HT1.out; omega); intro v52 wy ho hb hg hat; rw [← HU2.out] at ho; have HO2 := Aside0.mk ho; have HB := Aside0.mk hb; have HO1 := Aside0.mk (Kd.R_grown2 HN1.out rfl hg (sep_symm HSN.out)); have HS := Aside0.mk (sep_symm (sep_fresh (sep_symm HSN.out) hat HN1.out)); clear HN1 HN2 HM1 HSN p0 p1; clear ho hb hg hat)))
                          go_roundg (X.length - (i + 1))
                          case measure => omega
                          case rel => exact ⟨i + 1, by omega, by omega, (by first | rw [HJ1.out] | (simp; done) | rfl), HO1, HO2, HS, HB⟩
                        · have hltz : ¬ (i : Int) < (X.length : Int) := by omega
                          obtain rfl : i = X.length := by omega
                          clear hlt hltz hi hgi HS
                          have hxl := HFW.out.len
                          have hul := turnL_len T X (Nat.le_refl X.length)
                          have hel := turnL_len D X (Nat.le_refl X.length)
                          have hum : ∀ y ∈ turnL T X X.length, 1 ≤ y ∧ y ≤ 40 := fun y hy => HT2.out y (turnL_mem HFW.out.ind y hy)
                          have hem : ∀ y ∈ turnL D X X.length, 0 ≤ y ∧ y ≤ 1200000 := fun y hy => by
                            have := HDM.out y (turnL_mem (by rw [HDL.out]; exact HFW.out.ind) y hy)
                            omega
                          have hval := HFW.out.val
                          have hlt2 := late_turn T D (turnL T X X.length) (turnL D X X.length) X 0 0 (fun i hi => by rw [Nat.zero_add]; exact ⟨turnL_rd T X hi, turnL_rd D X hi⟩)
                          rw [← upto_rng] at hlt2
                          obtain ⟨K9, L9, hL9, f9, g9⟩ := late_ex (turnL T X X.length) (turnL D X X.length) (timesB_of hum) (by rw [hul, hxl]; have := HT1.out; omega) (by rw [hul, hel]) hem
                          rw [hul, ] at hL9
                          rw [← hL9] at hlt2
                          have hM : ((L9.length : Int) == M) = true := beq_iff_eq.2 (by rw [hlt2, hval]; rfl)
                          have HF9 := Aside0.mk f9
                          have HM9 := Aside0.mk hM
                          clear hL9 f9 g9 hlt2 hval hem hum hM
                          generalize turnL T X X.length = U at HO1 hul HF9
                          generalize turnL D X X.length = E at HO2 hel HF9
                          obtain ⟨Au, cu, rfl⟩ := Kd.R_slice HO1.out
                          obtain ⟨Ae, ce, rfl⟩ := Kd.R_slice HO2.out
                          have CU9 := Aside0.mk (Kd.R_reads' HO1.out).2.2
                          have HCU9 := Aside0.mk (Kd.R_reads' HO1.out).2.1
                          have CE9 := Aside0.mk (Kd.R_reads' HO2.out).2.2
                          have HCE9 := Aside0.mk (Kd.R_reads' HO2.out).2.1
                          have X9_ := Aside0.mk (below_step X8_.out HB.out)
                          clear HO1 HO2 HB hxl hul hel
                          go_wp2_with fail
                          refine (impl_LateLines.calls K9 Au cu U Ae ce E L9 0 wr CU9.out HCU9.out CE9.out HCE9.out HF9.out).mono ?_
                          rintro e w1 ⟨v5, rfl, ho, hb⟩
                          obtain ⟨A9, c9, rfl⟩ := Kd.R_slice ho
                          have X10_ := Aside0.mk (below_step X9_.out hb)
                          have hM := HM9.out
                          clear ho hb X9_
                          dsimp only
                          go_wp2_with fail
                          go_ret
                          exact ⟨rfl, X10_.out⟩
                    · have h5b : decide (5 < (T.length : Int)) = true := decide_eq_true (by omega)
                      have h5c : decide (5 < T.length) = true := decide_eq_true (by omega)
                      clear h5
                      go_wp2_with fail
                      go_ret
                      exact ⟨rfl, X5_.out⟩
theorem wf_byB {l : List Int} (h : ∀ x ∈ l, (Lit.int .u8 x).wf = true) : byB l := fun y hy => by
  have := h y hy
  simp [Lit.wf, IntKind.min, IntKind.max, IntKind.signed, IntKind.bits] at this
  omega
theorem fnShared_walk (a0 : Option Addr) (len0 cap0 : Nat) (z0 : List Int) (a1 : Option Addr) (len1 cap1 : Nat) (z1 : List Int) (w : World)
    (w0 : (a0 = none ∧ len0 = 0 ∧ cap0 = 0 ∧ z0 = []) ∨ ∃ x, a0 = some x ∧ len0 ≤ cap0 ∧ cap0 ≤ maxLen ∧ z0.length = cap0 ∧ (∀ i, i < z0.length → w.cell? (x.add i) = some (.int .u8 (z0.getD i 0))) ∧ ∀ n ∈ z0, (Lit.int .u8 n).wf = true)
    (w1 : (a1 = none ∧ len1 = 0 ∧ cap1 = 0 ∧ z1 = []) ∨ ∃ x, a1 = some x ∧ len1 ≤ cap1 ∧ cap1 ≤ maxLen ∧ z1.length = cap1 ∧ (∀ i, i < z1.length → w.cell? (x.add i) = some (.int .u8 (z1.getD i 0))) ∧ ∀ n ∈ z1, (Lit.int .u8 n).wf = true) :
    Calls Try.prog 3 #[.slice a0 len0 cap0, .slice a1 len1 cap1] w fun e w' => e = .returned (.bool true) ∧ Below w.heap.size w w' := by
  obtain ⟨l0, rfl, hr0, hm0, hw0, hc0⟩ := ReadsInt.ofRowC w0
  obtain ⟨l1, rfl, hr1, hm1, hw1, hc1⟩ := ReadsInt.ofRowC w1
  exact shared_calls _ _ _ _ l0 l1 w (Kd.C_of_reads (d := (0 : Int)) (h1 := fun _ => rfl) hr0) hc0 (Kd.C_of_reads (d := (0 : Int)) (h1 := fun _ => rfl) hr1) hc1 (wf_byB hw0) (wf_byB hw1)
end Go.Proofs.Ytcibhhkpnakkgaa.Ext
