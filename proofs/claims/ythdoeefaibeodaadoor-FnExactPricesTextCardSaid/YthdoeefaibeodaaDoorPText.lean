/- PricesText, in the program and in the reference, and its law. -/
import Derived.Test.YthdoeefaibeodaaDoorSText
import Derived.Test.YthdoeefaibeodaaDoorPrices
namespace Go.Proofs.YthdoeefaibeodaaDoor.Ext
open Go.RowKit Go.Proofs.YthdoeefaibeodaaDoorW.PrintWords Go.Proofs.YthdoeefaibeodaaDoorW.PrintLast Go.Proofs.YthdoeefaibeodaaDoorW.PrintMore
set_option linter.unusedVariables false
set_option linter.unusedSimpArgs false
theorem cellB2 {w w1 : World} {p : Addr} {v : Value} (h : w.cell? p = some v) (hb : Below w.heap.size w w1) : w1.cell? p = some v := (hb.cell (World.block_lt_of_cell? w _ h)).trans h
theorem reads_new3i (W : World) (t : TypeId) (n : Nat) (hn : W.heap.size = n) (a b c : Int) : Kd.C (Kd.int .i64) (W.alloc (.cells #[.int .i64 a, .int .i64 b, .int .i64 c] t (0, 0))) (some ⟨n, 0, none⟩) 3 [a, b, c] := by
  subst hn
  have hb := blk_new W (.cells (cellsK .i64 [a, b, c]) t)
  exact reads_of_block (by simp) hb
theorem joined16_calls (A : Option Addr) (l : List Int) (n c : Nat) (hn : l.length = n) (hc : n ≤ c) (hl : l.length ≤ 1000) (hb : ∀ x ∈ l, -32768 ≤ x ∧ x ≤ 32767) (w : World) (hG : GlobT w) (hr : Kd.C (Kd.int .i16) w A l.length l) :
    Calls Tryd.prog 59 #[.slice A n c] w fun e w' => e = .returned (.string (Pure.txtOf l)) ∧ Below w.heap.size w w' := by
  subst hn
  exact (QT.impl_joined_int16.calls (l.length + 1) A c l _ w hr hc hG (Pure.joined16_eq l hl hb (by omega))).mono fun e w' h => ⟨h.1, by have := h.2; first | exact this | exact this.below⟩
theorem take_rd (l : List Int) (n : Nat) (h : n < l.length) : l.take (n + 1) = l.take n ++ [rd l n] := by
  rw [List.take_succ_eq_append_getElem h]
  simp [rd, List.getD_eq_getElem?_getD, List.getElem?_eq_getElem h]
set_option maxHeartbeats 1000000 in
set_option maxRecDepth 10000 in
theorem l06List_calls (g : Nat) (l : List Int) (hl : l.length = 29) (hw : ∀ y ∈ l, -32768 ≤ y ∧ y ≤ 32767) (w : World) (hg : w.heap[g]? = some (.cells (cellsK .i16 l) 33 (0, 0))) :
    Calls Tryd.prog 98 #[.pointer (some ⟨g, 0, none⟩)] w fun e w' => ∃ v0_ : Value, e = .returned (v0_) ∧ Kd.R (Kd.int .i64) 2 w' w.heap.size (fun _ => True) v0_ l ∧ Below w.heap.size w w' := by
  have B1 := Aside0.mk hg
  have HB := Aside0.mk (Below.refl w.heap.size w)
  have HL := Aside0.mk hl
  clear hg hl
  go_enter Tryd.func98, Tryd.ntmps98
  go_wp2_with (first | ((with_reducible refine gate_dst (N := 5) rfl ?_); refine Kd.R_lit (Kd.int .i64) _ 2 ?hg (N := 5) ?hd (xs := ([] : List Int)) (inner := []) (ok := fun _ => True) (okp := fun _ => True) ?hr ?hp (fun _ hk => hk) trivial (Below.refl _ _) (Nat.le_refl _) (by simp) ?_; (case hd => rfl); (case hg => rfl); (case hr => first | (go_simp; done) | (go_simp; rfl)); (case hp => exact (Reps.none _ _)); intro v8 w3 ho4 hb hg_ hnew_; clear hg_ hnew_; have HO := Aside0.mk (Kd.R_lower ho4 (below_size HB.out)); have n1_ := Aside0.mk (below_step HB.out hb); clear HB; have HB := n1_; clear n1_; clear hb ho4))
  go_loopw [3, 4] (fun v i wr => ∃ n : Nat, n ≤ 26 ∧ i = .int .i64 n ∧ Aside0 (Kd.R (Kd.int .i64) 2 wr w.heap.size (fun _ => True) v (l.take n)) ∧ Aside0 (Below w.heap.size w wr)) (fun v i _ => 26 - (intOf i).toNat)
  case atStart =>
    exact ⟨0, by omega, rfl, ⟨by rw [List.take_zero]; exact HO.out⟩, ⟨HB.out⟩⟩
  case round =>
    obtain ⟨n, hn, rfl, HO, HB⟩ := hrel
    by_cases hlt : n < 26
    · have hltz : (n : Int) < 26 := by omega
      have hnl : n < l.length := by rw [HL.out]; omega
      have hc : wr.cell? ⟨g, n, none⟩ = some (.int .i16 (rd l n)) := (HB.out.cell (below_lt' B1.out)).trans (cellsK_cell B1.out n hnl)
      have hyr := hw (rd l n) (rd_mem' l n hnl)
      obtain ⟨y, hy⟩ : ∃ y, y = rd l (n : Int) := ⟨_, rfl⟩
      have hx := take_rd l n hnl
      rw [← hy] at hc hyr hx
      have hyw : wrap64 y = y := by unfold wrap64; omega
      obtain ⟨xs, hxs⟩ : ∃ xs, xs = l.take n := ⟨_, rfl⟩
      have hxl : xs.length ≤ 60 := by rw [hxs, List.length_take]; omega
      rw [← hxs] at hx HO
      have HX := Aside0.mk hx
      have HXL := Aside0.mk hxl
      clear hx hxl hxs hy hyr hnl
      go_wp2_with (first | ((with_reducible refine gate_builtin (b := .append) (xs := #[.tmp 10, .tmp 18]) rfl ?_); at_builtin; refine Kd.R_append (Kd.int .i64) (w0 := w) w.heap.size rfl (.tmp 10) (.tmp 18) 46 2 (.int .i64 0) 8 rfl Tryd.underlying46 info_i64 rfl (by decide) (by omega) u3 xs y [.int .i64 y] (fun _ => True) (fun _ => False) rfl rfl ?aP (fun _ hk => hk.elim) ?aF ?aO ?aB ?aS ?aL ?_; (case aP => exact rfl); (case aB => exact (by repeat (first | (with_reducible first | exact HB.out | apply below_alloc | apply pw_below_drewN | apply below_drew1) | exact HB.out))); (case aF => exact (fun _ _ => trivial)); (case aO => exact (by (with_reducible repeat (first | apply Kd.R_alloc | apply Kd.R_drewN | apply Kd.R_drew)); exact HO.out)); (case aS => exact (below_size (by repeat (first | (with_reducible first | exact HB.out | apply below_alloc | apply pw_below_drewN | apply below_drew1) | exact HB.out)))); (case aL => have := HXL.out; omega); intro v1 w9 ho hb hg hat; have HB2 := Aside0.mk hb; have HO2 := Aside0.mk ho; clear ho hb hg hat HB HO))
      go_roundw
      case rel => exact ⟨n + 1, by omega, by go_num, ⟨by rw [HX.out]; exact HO2.out⟩, ⟨HB2.out⟩⟩
      case measure => simp [intOf]; omega
    · have hltz : ¬ (n : Int) < 26 := by omega
      obtain rfl : n = 26 := by omega
      obtain ⟨x, hx⟩ : ∃ x, rd l 26 = x := ⟨_, rfl⟩
      obtain ⟨y, hy⟩ : ∃ y, rd l 27 = y := ⟨_, rfl⟩
      obtain ⟨z, hz⟩ : ∃ z, rd l 28 = z := ⟨_, rfl⟩
      have hs := split29 l HL.out
      rw [hx, hy, hz] at hs
      have hc26 : wr.cell? ⟨g, 26, none⟩ = some (.int .i16 x) := (HB.out.cell (below_lt' B1.out)).trans (cellAt B1.out (by rw [HL.out]; omega) hx)
      have hc27 : wr.cell? ⟨g, 27, none⟩ = some (.int .i16 y) := (HB.out.cell (below_lt' B1.out)).trans (cellAt B1.out (by rw [HL.out]; omega) hy)
      have hc28 : wr.cell? ⟨g, 28, none⟩ = some (.int .i16 z) := (HB.out.cell (below_lt' B1.out)).trans (cellAt B1.out (by rw [HL.out]; omega) hz)
      have hxr := hw (rd l 26) (rd_mem' l 26 (by rw [HL.out]; omega))
      have hyr := hw (rd l 27) (rd_mem' l 27 (by rw [HL.out]; omega))
      have hzr := hw (rd l 28) (rd_mem' l 28 (by rw [HL.out]; omega))
      rw [hx] at hxr
      rw [hy] at hyr
      rw [hz] at hzr
      have hxw : wrap64 x = x := by unfold wrap64; omega
      have hyw : wrap64 y = y := by unfold wrap64; omega
      have hzw : wrap64 z = z := by unfold wrap64; omega
      have hxw2 : IntKind.i64.wrap x = x := by simp [IntKind.wrap, IntKind.signed, IntKind.bits]; omega
      have hyw2 : IntKind.i64.wrap y = y := by simp [IntKind.wrap, IntKind.signed, IntKind.bits]; omega
      have hzw2 : IntKind.i64.wrap z = z := by simp [IntKind.wrap, IntKind.signed, IntKind.bits]; omega
      obtain ⟨xs, hxs⟩ : ∃ xs, xs = l.take 26 := ⟨_, rfl⟩
      have hxl : xs.length ≤ 60 := by rw [hxs, List.length_take]; omega
      rw [← hxs] at hs HO
      have HS := Aside0.mk hs
      have HXL := Aside0.mk hxl
      clear hs hxl hxs hxr hyr hzr hx hy hz
      go_wp2_with fail
      refine start_ (n := 19) (S := fun w' => w'.cell? ⟨g, 26, none⟩ = some (.int .i16 x) ∧ w'.cell? ⟨g, 27, none⟩ = some (.int .i16 y) ∧ w'.cell? ⟨g, 28, none⟩ = some (.int .i16 z) ∧ Kd.R (Kd.int .i64) 2 w' w.heap.size (fun _ => True) u3 xs ∧ Below w.heap.size w w') (ds := [17, 18]) #[false, false, false, false, false, false, false, false, false, false, false, false, false, false, false, false, false, false, false] (by kernel_rfl) rfl rfl ⟨(cellB2 hc26 (below_drew (Below.refl _ _))), (cellB2 hc27 (below_drew (Below.refl _ _))), (cellB2 hc28 (below_drew (Below.refl _ _))), (Kd.R_drew HO.out), (below_step HB.out (below_drew (Below.refl _ _)))⟩ (fun hHeld => ?_)
      refine pure_ (i := 0) (N := some 20) (v := ?_) (a' := ?_) #[true, false, false, false, false, false, false, false, false, false, false, false, false, false, false, false, false, false, false] rfl rfl (by kernel_rfl) (fun _ _ _ h => h) (Or.inl ⟨by rfl, ?_⟩) ?_ ?_
      rotate_left
      · intro w'
        go_simp
        with_reducible rfl
      rotate_left
      · simp only [Act.put, List.setIfInBounds_toArray, List.set_cons_zero, List.set_cons_succ, i64_w, i32_w]
        rfl
      refine pure_ (i := 1) (N := some 21) (v := ?_) (a' := ?_) #[true, true, false, false, false, false, false, false, false, false, false, false, false, false, false, false, false, false, false] rfl rfl (by kernel_rfl) (fun _ _ _ h => h) (Or.inl ⟨by rfl, ?_⟩) ?_ ?_
      rotate_left
      · intro w'
        go_simp
        with_reducible rfl
      rotate_left
      · simp only [Act.put, List.setIfInBounds_toArray, List.set_cons_zero, List.set_cons_succ, i64_w, i32_w]
        rfl
      refine pure_ (i := 2) (N := some 22) (v := ?_) (a' := ?_) #[true, true, true, false, false, false, false, false, false, false, false, false, false, false, false, false, false, false, false] rfl rfl (by kernel_rfl) (fun _ _ _ h => h) (Or.inl ⟨by rfl, ?_⟩) ?_ ?_
      rotate_left
      · intro w'
        go_simp
        with_reducible rfl
      rotate_left
      · simp only [Act.put, List.setIfInBounds_toArray, List.set_cons_zero, List.set_cons_succ, i64_w, i32_w]
        rfl
      refine pure_ (i := 3) (N := some 23) (v := ?_) (a' := ?_) #[true, true, true, true, false, false, false, false, false, false, false, false, false, false, false, false, false, false, false] rfl rfl (by kernel_rfl) (fun _ _ _ h => h) (Or.inl ⟨by rfl, ?_⟩) ?_ ?_
      rotate_left
      · intro w'
        go_simp
        with_reducible rfl
      rotate_left
      · simp only [Act.put, List.setIfInBounds_toArray, List.set_cons_zero, List.set_cons_succ, i64_w, i32_w]
        rfl
      refine pure_ (i := 6) (N := some 26) (v := ?_) (a' := ?_) #[true, true, true, true, false, false, true, false, false, false, false, false, false, false, false, false, false, false, false] rfl rfl (by kernel_rfl) (fun _ _ _ h => h) (Or.inl ⟨by rfl, ?_⟩) ?_ ?_
      rotate_left
      · intro w'
        go_simp
        with_reducible rfl
      rotate_left
      · simp only [Act.put, List.setIfInBounds_toArray, List.set_cons_zero, List.set_cons_succ, i64_w, i32_w]
        rfl
      refine pure_ (i := 7) (N := some 27) (v := ?_) (a' := ?_) #[true, true, true, true, false, false, true, true, false, false, false, false, false, false, false, false, false, false, false] rfl rfl (by kernel_rfl) (fun _ _ _ h => h) (Or.inl ⟨by rfl, ?_⟩) ?_ ?_
      rotate_left
      · intro w'
        go_simp
        with_reducible rfl
      rotate_left
      · simp only [Act.put, List.setIfInBounds_toArray, List.set_cons_zero, List.set_cons_succ, i64_w, i32_w]
        rfl
      refine pure_ (i := 8) (N := some 28) (v := ?_) (a' := ?_) #[true, true, true, true, false, false, true, true, true, false, false, false, false, false, false, false, false, false, false] rfl rfl (by kernel_rfl) (fun _ _ _ h => h) (Or.inl ⟨by rfl, ?_⟩) ?_ ?_
      rotate_left
      · intro w'
        go_simp
        with_reducible rfl
      rotate_left
      · simp only [Act.put, List.setIfInBounds_toArray, List.set_cons_zero, List.set_cons_succ, i64_w, i32_w]
        rfl
      refine pure_ (i := 11) (N := some 31) (v := ?_) (a' := ?_) #[true, true, true, true, false, false, true, true, true, false, false, true, false, false, false, false, false, false, false] rfl rfl (by kernel_rfl) (fun _ _ _ h => h) (Or.inl ⟨by rfl, ?_⟩) ?_ ?_
      rotate_left
      · intro w'
        go_simp
        with_reducible rfl
      rotate_left
      · simp only [Act.put, List.setIfInBounds_toArray, List.set_cons_zero, List.set_cons_succ, i64_w, i32_w]
        rfl
      refine pure_ (i := 12) (N := some 32) (v := ?_) (a' := ?_) #[true, true, true, true, false, false, true, true, true, false, false, true, true, false, false, false, false, false, false] rfl rfl (by kernel_rfl) (fun _ _ _ h => h) (Or.inl ⟨by rfl, ?_⟩) ?_ ?_
      rotate_left
      · intro w'
        go_simp
        with_reducible rfl
      rotate_left
      · simp only [Act.put, List.setIfInBounds_toArray, List.set_cons_zero, List.set_cons_succ, i64_w, i32_w]
        rfl
      refine pure_ (i := 13) (N := some 33) (v := ?_) (a' := ?_) #[true, true, true, true, false, false, true, true, true, false, false, true, true, true, false, false, false, false, false] rfl rfl (by kernel_rfl) (fun _ _ _ h => h) (Or.inl ⟨by rfl, ?_⟩) ?_ ?_
      rotate_left
      · intro w'
        go_simp
        with_reducible rfl
      rotate_left
      · simp only [Act.put, List.setIfInBounds_toArray, List.set_cons_zero, List.set_cons_succ, i64_w, i32_w]
        rfl
      refine take_ (i := 4) (N := some 24) (v := ?_) (a' := ?_) #[true, true, true, true, true, false, true, true, true, false, false, true, true, true, false, false, false, false, false] rfl rfl (by kernel_rfl) (fun _ _ _ h => h) (Or.inl ⟨by rfl, ?_⟩) hHeld ?_ ?_
      rotate_left
      · rintro w' ⟨s0, s1, s2, s3, s4⟩
        go_simp
        with_reducible rfl
      rotate_left
      · simp only [Act.put, List.setIfInBounds_toArray, List.set_cons_zero, List.set_cons_succ, i64_w, i32_w]
        rfl
      refine pure_ (i := 5) (N := some 25) (v := ?_) (a' := ?_) #[true, true, true, true, true, true, true, true, true, false, false, true, true, true, false, false, false, false, false] rfl rfl (by kernel_rfl) (fun _ _ _ h => h) (Or.inl ⟨by rfl, ?_⟩) ?_ ?_
      rotate_left
      · intro w'
        go_simp
        with_reducible rfl
      rotate_left
      · simp only [Act.put, List.setIfInBounds_toArray, List.set_cons_zero, List.set_cons_succ, i64_w, i32_w]
        rfl
      refine take_ (i := 9) (N := some 29) (v := ?_) (a' := ?_) #[true, true, true, true, true, true, true, true, true, true, false, true, true, true, false, false, false, false, false] rfl rfl (by kernel_rfl) (fun _ _ _ h => h) (Or.inl ⟨by rfl, ?_⟩) hHeld ?_ ?_
      rotate_left
      · rintro w' ⟨s0, s1, s2, s3, s4⟩
        go_simp
        with_reducible rfl
      rotate_left
      · simp only [Act.put, List.setIfInBounds_toArray, List.set_cons_zero, List.set_cons_succ, i64_w, i32_w]
        rfl
      refine pure_ (i := 10) (N := some 30) (v := ?_) (a' := ?_) #[true, true, true, true, true, true, true, true, true, true, true, true, true, true, false, false, false, false, false] rfl rfl (by kernel_rfl) (fun _ _ _ h => h) (Or.inl ⟨by rfl, ?_⟩) ?_ ?_
      rotate_left
      · intro w'
        go_simp
        with_reducible rfl
      rotate_left
      · simp only [Act.put, List.setIfInBounds_toArray, List.set_cons_zero, List.set_cons_succ, i64_w, i32_w]
        rfl
      refine take_ (i := 14) (N := some 34) (v := ?_) (a' := ?_) #[true, true, true, true, true, true, true, true, true, true, true, true, true, true, true, false, false, false, false] rfl rfl (by kernel_rfl) (fun _ _ _ h => h) (Or.inl ⟨by rfl, ?_⟩) hHeld ?_ ?_
      rotate_left
      · rintro w' ⟨s0, s1, s2, s3, s4⟩
        go_simp
        with_reducible rfl
      rotate_left
      · simp only [Act.put, List.setIfInBounds_toArray, List.set_cons_zero, List.set_cons_succ, i64_w, i32_w]
        rfl
      refine pure_ (i := 15) (N := some 35) (v := ?_) (a' := ?_) #[true, true, true, true, true, true, true, true, true, true, true, true, true, true, true, true, false, false, false] rfl rfl (by kernel_rfl) (fun _ _ _ h => h) (Or.inl ⟨by rfl, ?_⟩) ?_ ?_
      rotate_left
      · intro w'
        go_simp
        with_reducible rfl
      rotate_left
      · simp only [Act.put, List.setIfInBounds_toArray, List.set_cons_zero, List.set_cons_succ, i64_w, i32_w]
        rfl
      refine one_ (i := 16) (N := some 36) #[true, true, true, true, true, true, true, true, true, true, true, true, true, true, true, true, true, false, false] rfl rfl (by kernel_rfl) (by decide) (fun K hK => ?_)
      refine value_ (w1 := ?_) (v := ?_) (by rfl) rfl ?_ ?_
      rotate_left 2
      · go_simp
        constructor
        · rfl
        · rfl
      refine hK.out _ _ ⟨(cellB2 hHeld.1 (below_alloc (Below.refl _ _) _)), (cellB2 hHeld.2.1 (below_alloc (Below.refl _ _) _)), (cellB2 hHeld.2.2.1 (below_alloc (Below.refl _ _) _)), (Kd.R_alloc hHeld.2.2.2.1 _), (below_alloc hHeld.2.2.2.2 _)⟩ (fun hHeld => ?_)
      clear hK K
      refine norm_ (a' := ?_) ?_ ?_
      rotate_left
      · show Act.put _ (some 36) _ = _
        simp only [Act.put, List.setIfInBounds_toArray, List.set_cons_zero, List.set_cons_succ, i64_w, i32_w]
        rfl
      refine last_ (i := 17) (N := some 37) #[true, true, true, true, true, true, true, true, true, true, true, true, true, true, true, true, true, true, false] rfl rfl (by kernel_rfl) (by decide) (fun K hK => ?_)
      refine Kd.R_append_rows_step (Kd.int .i64) (Rr := (Kd.int .i64).K _) (w0 := w) w.heap.size (by rfl) (.tmp 20) (.tmp 36) 46 2 (.int .i64 0) 8 rfl Tryd.underlying46 info_i64 rfl (by decide) (by omega) u3 xs [x, y, z] _ 3 3 (fun _ => True) (fun _ => False) rfl rfl hHeld.2.2.2.1 (reads_new3i _ _ _ rfl x y z) (fun _ _ h => h) (fun _ h => h.elim) (fun _ _ => trivial) hHeld.2.2.2.2 (below_size hHeld.2.2.2.2) (by have := HXL.out; simp; omega) ?_
      intro v37 w9 ho hb hg3 hat3
      refine hK.out _ _ ?_
      clear hK K
      refine norm_ (a' := ?_) ?_ ?_
      rotate_left
      · show Act.put _ (some 37) _ = _
        simp only [Act.put, List.setIfInBounds_toArray, List.set_cons_zero, List.set_cons_succ, i64_w, i32_w]
        rfl
      refine pure_ (i := 18) (N := some 2) (v := ?_) (a' := ?_) #[true, true, true, true, true, true, true, true, true, true, true, true, true, true, true, true, true, true, true] rfl rfl (by kernel_rfl) (fun _ _ _ h => h) (Or.inl ⟨by rfl, ?_⟩) ?_ ?_
      rotate_left
      · intro w'
        go_simp
        with_reducible rfl
      rotate_left
      · simp only [Act.put, List.setIfInBounds_toArray, List.set_cons_zero, List.set_cons_succ, i64_w, i32_w]
        rfl
      refine done_ (by kernel_rfl) ?_
      go_wp2_with fail
      go_ret
      exact ⟨_, rfl, by rw [HS.out] at ho; exact ho, hb⟩
set_option maxHeartbeats 1000000 in
set_option maxRecDepth 10000 in
theorem l06Text_calls (g : Nat) (l : List Int) (hl : l.length = 29) (hw : ∀ y ∈ l, 0 ≤ y ∧ y ≤ 32767) (w : World) (hb : w.heap[g]? = some (.cells (cellsK .i16 l) 33 (0, 0))) :
    Calls Tryd.prog 56 #[.pointer (some ⟨g, 0, none⟩)] w fun e w' => e = .returned (.string (Pure.txtOf l)) ∧ Below w.heap.size w w' := by
  have B1 := Aside0.mk hb
  have HL := Aside0.mk hl
  have HT0 : Pure.txtOf (l.take 0) = ⟨#[]⟩ := rfl
  clear hb
  go_enter Tryd.func56, Tryd.ntmps56
  go_wp2_with fail
  refine (l06List_calls g l hl (fun y hy => by have := hw y hy; omega) w B1.out).mono ?_
  rintro e w1 ⟨v, rfl, ho, hb⟩
  have HB := Aside0.mk hb
  obtain ⟨A, c, rfl, hc, hr⟩ := Kd.R_reads ho
  have HR := Aside0.mk hr
  clear hb ho hr
  rw [hl]
  clear hl
  go_wp2
  go_loopw [4, 5] (fun v i wr => ∃ n : Nat, n ≤ 29 ∧ i = .int .i64 n ∧ v = .string (Pure.txtOf (l.take n)) ∧ Aside0 (Below w1.heap.size w1 wr)) (fun v i _ => 29 - (intOf i).toNat)
  case atStart => exact ⟨0, by omega, rfl, rfl, ⟨Below.refl _ _⟩⟩
  case round =>
    obtain ⟨n, hn, rfl, rfl, HB2⟩ := hrel
    clear HT0
    by_cases hlt : n < 29
    · have hltz : (n : Int) < 29 := by omega
      have hnl : n < l.length := by rw [HL.out]; exact hlt
      obtain ⟨ad, e, hcell⟩ := Kd.at_int (Kd.C_below HR.out HB2.out) (n : Int) (by omega) (by omega)
      subst e
      rw [Int.toNat_natCast] at hcell
      have hyr := hw (rd l n) (rd_mem' l n hnl)
      obtain ⟨y, hy⟩ : ∃ y : Nat, (y : Int) = rd l n := ⟨(rd l n).toNat, by omega⟩
      rw [← hy] at hcell hyr
      have hsz := txtOf_size (l.take n) (fun x hx => by have := hw x (List.mem_of_mem_take hx); omega)
      have hsz2 : (Pure.txtOf (l.take n)).size ≤ 800 := by rw [List.length_take] at hsz; omega
      clear hsz
      have hA : 0 < n → Pure.txtOf (l.take n) ++ (⟨#[32]⟩ : ByteArray) ++ (⟨(Lib.itoa (y : Int)).toArray⟩ : ByteArray) = Pure.txtOf (l.take (n + 1)) := fun h0 => by rw [hy]; exact append_txt l n hnl h0
      have hA0 : n = 0 → Pure.txtOf (l.take n) ++ (⟨(Lib.itoa (y : Int)).toArray⟩ : ByteArray) = Pure.txtOf (l.take (n + 1)) := fun h0 => by subst h0; rw [hy]; exact append_txt0 l hnl
      have HA := Aside0.mk hA
      have HA0 := Aside0.mk hA0
      have HY := Aside0.mk hyr
      have hil : (⟨(Lib.itoa (y : Int)).toArray⟩ : ByteArray).size ≤ 21 := by
        have := Lib.itoa_length_le (y : Int) (by omega) (by omega)
        simpa [ByteArray.size] using this
      clear hA hA0 hy hyr hnl
      by_cases h0 : n = 0
      · have hz : decide ((n : Int) > 0) = false := by simp; omega
        have hz2 : decide ((0 : Int) < n) = false := by simp; omega
        have hz3 : decide (0 < n) = false := by simp; omega
        have hz4 : (0 < n) = False := by simp; omega
        have HN0 := Aside0.mk h0
        clear h0
        generalize Pure.txtOf (l.take n) = X at *
        go_wp2_with fail
        refine (dec_calls y (by have := HY.out; omega) _).mono ?_
        rintro e w2 ⟨rfl, hb⟩
        replace HB2 := Aside0.mk (below_step HB2.out hb)
        clear hb
        generalize (⟨(Lib.itoa (y : Int)).toArray⟩ : ByteArray) = Y at *
        go_wp2
        go_roundw
        case rel => exact ⟨n + 1, by omega, by go_num, by rw [HA0.out HN0.out], ⟨HB2.out⟩⟩
        case measure => simp [intOf]; omega
      · have hz : decide ((n : Int) > 0) = true := by simp; omega
        have hz2 : decide ((0 : Int) < n) = true := by simp; omega
        have hz3 : decide (0 < n) = true := by simp; omega
        have hz4 : 0 < n := by omega
        have HN0 := Aside0.mk (show 0 < n by omega)
        clear h0
        generalize Pure.txtOf (l.take n) = X at *
        have hX : (X ++ (⟨#[32]⟩ : ByteArray)).size ≤ 801 := by
          rw [ByteArray.size_append]
          have : (⟨#[32]⟩ : ByteArray).size = 1 := rfl
          omega
        have h1 : (⟨#[32]⟩ : ByteArray).size = 1 := rfl
        go_wp2_with fail
        refine (dec_calls y (by have := HY.out; omega) _).mono ?_
        rintro e w2 ⟨rfl, hb⟩
        replace HB2 := Aside0.mk (below_step HB2.out hb)
        clear hb
        generalize (⟨(Lib.itoa (y : Int)).toArray⟩ : ByteArray) = Y at *
        go_wp2
        go_roundw
        case rel => exact ⟨n + 1, by omega, by go_num, by rw [HA.out HN0.out], ⟨HB2.out⟩⟩
        case measure => simp [intOf]; omega
    · have hltz : ¬ (n : Int) < 29 := by omega
      obtain rfl : n = 29 := by omega
      go_wp2
      go_ret
      exact ⟨by rw [List.take_of_length_le (by rw [HL.out]; exact Nat.le_refl _)]; rfl, below_step HB.out HB2.out⟩
/-- What PricesText answers. -/
def ptC (l : List Int) : ByteArray := if pricesB l then Pure.txtOf l else ⟨#[]⟩
theorem ptC_f {l : List Int} (h : pricesB l = false) : ptC l = ⟨#[]⟩ := by unfold ptC; rw [h]; rfl
theorem ptC_t {l : List Int} (h : pricesB l = true) : ptC l = Pure.txtOf l := by unfold ptC; rw [h]; rfl
theorem pricesB_in {l : List Int} (h : pricesB l = true) : ∀ y ∈ l, 0 ≤ y ∧ y ≤ 1000 := by
  intro y hy
  have := List.all_eq_true.1 h y hy
  unfold inB at this
  simpa using this
theorem specPricesText_calls (l : List Int) (hl : l.length = 29) (hw : ∀ y ∈ l, -32768 ≤ y ∧ y ≤ 32767) (w : World) :
    Calls Tryd.prog 18 #[.agg (cellsK .i16 l)] w fun e w' => e = .returned (.string (ptC l)) ∧ Below w.heap.size w w' := by
  have B1 := Aside0.mk (blk_new w (.cells (cellsK .i16 l) 33))
  have HB := Aside0.mk (below_alloc (Below.refl w.heap.size w) (.cells (cellsK .i16 l) 33))
  cases hsb : pricesB l
  all_goals
    have HSB := Aside0.mk hsb
    clear hsb
    go_enter Tryd.func18, Tryd.ntmps18
    go_wp2_with fail
    refine (l06Prices_calls _ l hl hw _ B1.out).mono ?_
    rintro e w' ⟨rfl, rfl⟩
    rw [HSB.out]
    go_wp2_with fail
  · go_ret
    exact ⟨by rw [ptC_f HSB.out]; rfl, HB.out⟩
  · refine (l06Text_calls _ l hl (fun y hy => by have := pricesB_in HSB.out y hy; omega) _ B1.out).mono ?_
    rintro e w2 ⟨rfl, hb⟩
    replace HB := Aside0.mk (below_step HB.out hb)
    clear hb
    go_wp2_with fail
    go_ret
    exact ⟨by rw [ptC_t HSB.out]; rfl, HB.out⟩
theorem implPricesText_calls (l : List Int) (hl : l.length = 29) (hw : ∀ y ∈ l, -32768 ≤ y ∧ y ≤ 32767) (w : World) (hG : GlobT w) :
    Calls Tryd.prog 20 #[.agg (cellsK .i16 l)] w fun e w' => e = .returned (.string (ptC l)) ∧ Below w.heap.size w w' := by
  have B1 := Aside0.mk (blk_new w (.cells (cellsK .i16 l) 33))
  have HB := Aside0.mk (below_alloc (Below.refl w.heap.size w) (.cells (cellsK .i16 l) 33))
  have hsz : (Tryd.prog.info? 33).map (·.size) = some (cellsK .i16 l).size := by rw [cellsK_size, hl]; exact info_Prices
  have HSZ := Aside0.mk hsz
  have HG := Aside0.mk hG
  clear hsz hG
  go_enter Tryd.func20, Tryd.ntmps20
  go_wp2_with (first | ((with_reducible refine gate_dst (N := 3) rfl ?_); refine wpList_load_row rfl 33 (.tmp 1) rfl w.heap.size rfl _ _ _ _ B1.out Tryd.underlying33 rfl HSZ.out ?_) | fail)
  refine (implValidPrices_calls l hl hw _).mono ?_
  rintro e w1 ⟨rfl, hb⟩
  replace B1 := Aside0.mk (blk_below B1.out hb)
  replace HB := Aside0.mk (below_step HB.out hb)
  clear hb
  cases hsb : pricesB l
  · have HSB := Aside0.mk hsb
    clear hsb
    go_wp2_with fail
    go_ret
    exact ⟨by rw [ptC_f HSB.out]; rfl, HB.out⟩
  · have HSB := Aside0.mk hsb
    clear hsb
    go_wp2_with (first | ((with_reducible refine gate_dst (N := 6) rfl ?_); refine wpList_load_row rfl 33 (.tmp 1) rfl w.heap.size rfl _ _ _ _ B1.out Tryd.underlying33 rfl HSZ.out ?_) | fail)
    refine (all_calls l hl _).mono ?_
    rintro e w2 ⟨v, rfl, ho, hb⟩
    replace HB := Aside0.mk (below_step HB.out hb)
    obtain ⟨A, c, rfl, hc, hr⟩ := Kd.R_reads ho
    have HR := Aside0.mk hr
    have HC := Aside0.mk hc
    clear hb ho hr hc
    go_wp2_with fail
    refine (joined16_calls A l 29 c hl (by have := HC.out; omega) (by omega) (fun x hx => by have := hw x hx; omega) _ (HG.out.below HB.out) HR.out).mono ?_
    rintro e w3 ⟨rfl, hb⟩
    replace HB := Aside0.mk (below_step HB.out hb)
    clear hb
    go_wp2_with fail
    go_ret
    exact ⟨by rw [ptC_t HSB.out]; rfl, HB.out⟩
theorem FnExactPricesText_calls (l : List Int) (hl : l.length = 29) (hwf : ∀ y ∈ l, (Lit.int .i16 y).wf = true) (w : World) (hG : GlobT w) :
    Calls Tryd.prog 4 #[.agg (cellsK .i16 l)] w fun e w' => e = .returned (.bool true) ∧ Below w.heap.size w w' := by
  have hw : ∀ y ∈ l, -32768 ≤ y ∧ y ≤ 32767 := fun y hy => by simpa [Lit.wf, IntKind.min, IntKind.max, IntKind.signed, IntKind.bits] using hwf y hy
  have B1 := Aside0.mk (blk_new w (.cells (cellsK .i16 l) 31))
  have HB := Aside0.mk (below_alloc (Below.refl w.heap.size w) (.cells (cellsK .i16 l) 31))
  have hsz : (Tryd.prog.info? 31).map (·.size) = some (cellsK .i16 l).size := by rw [cellsK_size, hl]; exact info_lPrices
  have HSZ := Aside0.mk hsz
  have HG := Aside0.mk hG
  clear hsz hG hwf
  go_enter Tryd.func4, Tryd.ntmps4
  go_wp2_with (first | ((with_reducible refine gate_dst (N := 5) rfl ?_); refine wpList_load_row rfl 31 (.tmp 1) rfl w.heap.size rfl _ _ _ _ B1.out Tryd.underlying31 rfl HSZ.out ?_) | fail)
  refine (toPrices_calls l hl _).mono ?_
  rintro e w1 ⟨rfl, hb⟩
  replace B1 := Aside0.mk (blk_below B1.out hb)
  replace HB := Aside0.mk (below_step HB.out hb)
  clear hb
  go_wp2_with fail
  refine (specPricesText_calls l hl hw _).mono ?_
  rintro e w2 ⟨rfl, hb⟩
  replace B1 := Aside0.mk (blk_below B1.out hb)
  replace HB := Aside0.mk (below_step HB.out hb)
  clear hb
  go_wp2_with (first | ((with_reducible refine gate_dst (N := 8) rfl ?_); refine wpList_load_row rfl 31 (.tmp 1) rfl w.heap.size rfl _ _ _ _ B1.out Tryd.underlying31 rfl HSZ.out ?_) | fail)
  refine (toPrices_calls l hl _).mono ?_
  rintro e w3 ⟨rfl, hb⟩
  replace B1 := Aside0.mk (blk_below B1.out hb)
  replace HB := Aside0.mk (below_step HB.out hb)
  clear hb
  go_wp2_with fail
  refine (implPricesText_calls l hl hw _ (HG.out.below HB.out)).mono ?_
  rintro e w4 ⟨rfl, hb⟩
  replace HB := Aside0.mk (below_step HB.out hb)
  clear hb
  generalize ptC l = X
  go_wp2
  go_ret
  exact ⟨rfl, HB.out⟩
end Go.Proofs.YthdoeefaibeodaaDoor.Ext
