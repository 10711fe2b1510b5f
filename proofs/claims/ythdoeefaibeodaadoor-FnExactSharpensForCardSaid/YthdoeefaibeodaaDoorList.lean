/- The strokes of a text's letters, in the reference. -/
import Derived.Test.YthdoeefaibeodaaDoorEach
namespace Go.Proofs.YthdoeefaibeodaaDoor.Ext
open Go.RowKit Go.Proofs.YthdoeefaibeodaaDoor.Q Go.Proofs.YthdoeefaibeodaaDoorW.PrintWords Go.Proofs.YthdoeefaibeodaaDoorW.PrintLast Go.Proofs.YthdoeefaibeodaaDoorW.PrintMore
set_option linter.unusedVariables false
set_option linter.unusedSimpArgs false
theorem cellB {w w1 : World} {p : Addr} {v : Value} (h : w.cell? p = some v) (hb : Below w.heap.size w w1) : w1.cell? p = some v := (hb.cell (World.block_lt_of_cell? w _ h)).trans h
theorem take_letters (t : List UInt8) (n : Nat) (h : n < t.length) : Pure.letters (t.take (n + 1)) = Pure.letters (t.take n) ++ (if t.getD n 0 = 32 then [] else [t.getD n 0]) := by
  have e : t.getD n 0 = t[n] := by rw [List.getD_eq_getElem?_getD, List.getElem?_eq_getElem h]; rfl
  rw [List.take_succ_eq_append_getElem h, e]
  unfold Pure.letters
  rw [List.filter_append]
  congr 1
  by_cases hx : t[n] = 32
  · rw [if_pos hx, hx]; rfl
  · rw [if_neg hx, List.filter_cons_of_pos (by simpa using hx)]; rfl
set_option maxHeartbeats 1000000 in
set_option maxRecDepth 10000 in
theorem l05List_calls (g : Nat) (l : List Int) (hl : l.length = 26) (hw : ∀ y ∈ l, -128 ≤ y ∧ y ≤ 127) (s : ByteArray) (hs : s.size ≤ 60) (ht : ∀ b ∈ Pure.letters s.data.toList, 65 ≤ b.toNat ∧ b.toNat ≤ 90) (w : World) (hg : w.heap[g]? = some (.cells (cellsK .i8 l) 25 (0, 0))) :
    Calls Tryd.prog 67 #[.pointer (some ⟨g, 0, none⟩), .string s] w fun e w' => ∃ v0_ : Value, e = .returned (v0_) ∧ Kd.R (Kd.int .i64) 2 w' w.heap.size (fun _ => True) v0_ (strokesOf l (Pure.letters s.data.toList)) ∧ Below w.heap.size w w' := by
  have B1 := Aside0.mk hg
  have HB := Aside0.mk (Below.refl w.heap.size w)
  have HT := Aside0.mk ht
  have hlen := data_length s
  have HLen := Aside0.mk hlen
  clear hg ht hlen
  go_enter Tryd.func67, Tryd.ntmps67
  go_wp2_with (first | ((with_reducible refine gate_dst (N := 7) rfl ?_); refine Kd.R_lit (Kd.int .i64) _ 2 ?hg (N := 7) ?hd (xs := ([] : List Int)) (inner := []) (ok := fun _ => True) (okp := fun _ => True) ?hr ?hp (fun _ hk => hk) trivial (Below.refl _ _) (Nat.le_refl _) (by simp) ?_; (case hd => rfl); (case hg => rfl); (case hr => first | (go_simp; done) | (go_simp; rfl)); (case hp => exact (Reps.none _ _)); intro v8 w3 ho4 hb hg_ hnew_; clear hg_ hnew_; have HO := Aside0.mk (Kd.R_lower ho4 (below_size HB.out)); have n1_ := Aside0.mk (below_step HB.out hb); clear HB; have HB := n1_; clear n1_; clear hb ho4))
  go_loopw [5, 6] (fun v i wr => ∃ n : Nat, n ≤ s.size ∧ i = .int .i64 n ∧ Aside0 (Kd.R (Kd.int .i64) 2 wr w.heap.size (fun _ => True) v (strokesOf l (Pure.letters (s.data.toList.take n)))) ∧ Aside0 (Below w.heap.size w wr)) (fun v i _ => s.size - (intOf i).toNat)
  case atStart =>
    exact ⟨0, by omega, rfl, ⟨by rw [List.take_zero]; exact HO.out⟩, ⟨HB.out⟩⟩
  case round =>
    obtain ⟨n, hn, rfl, HO, HB⟩ := hrel
    by_cases hlt : n < s.size
    · have hltz : (n : Int) < s.size := by omega
      have hld : n < s.data.toList.length := by rw [HLen.out]; exact hlt
      obtain ⟨b, hb⟩ : ∃ b, b = s.data.toList.getD n 0 := ⟨_, rfl⟩
      obtain ⟨z, hz⟩ : ∃ z : Int, z = (b.toNat : Int) := ⟨_, rfl⟩
      have hix : ∀ h : n < s.size, ((s[n]'h).toNat : Int) = z := fun h => by
        have h1 := bt_at s (n : Int) (by rw [Int.toNat_natCast]; exact h)
        have h2 := Pure.bt_get s n hld
        rw [h2, ← hb, ← hz] at h1
        simpa using h1
      have htk := take_letters s.data.toList n hld
      rw [← hb] at htk
      by_cases h32 : b = 32
      · have hz32 : z = 32 := by rw [hz, h32]; rfl
        rw [if_pos h32, List.append_nil] at htk
        have HTk := Aside0.mk htk
        clear htk h32 hb hz
        subst hz32
        go_wp2_with (fail)
        go_roundw
        case rel => exact ⟨n + 1, by omega, by go_num, ⟨by rw [HTk.out]; exact HO.out⟩, ⟨HB.out⟩⟩
        case measure => simp [intOf]; omega
      · have hzne : (z == 32) = false := by
          rw [beq_eq_false_iff_ne]; intro h; exact h32 ((Pure.is32 b).1 (by rw [← hz]; exact h))
        have hzne2 : (z != 32) = true := by rw [bne, hzne]; rfl
        rw [if_neg h32] at htk
        have hbr : 65 ≤ b.toNat ∧ b.toNat ≤ 90 := by
          refine HT.out b ?_
          unfold Pure.letters
          rw [List.mem_filter]
          refine ⟨?_, by simpa using h32⟩
          rw [hb, List.getD_eq_getElem?_getD, List.getElem?_eq_getElem hld]
          exact List.getElem_mem hld
        obtain ⟨q, hq⟩ : ∃ q : Nat, (q : Int) = (b.toNat : Int) - 65 := ⟨b.toNat - 65, by omega⟩
        have hq25 : q < 26 := by omega
        have hcl : wr.cell? ⟨g, q, none⟩ = some (.int .i8 (rd l q)) := cellB (cellsK_cell B1.out q (by omega)) HB.out
        obtain ⟨y, hy⟩ : ∃ y, y = rd l (q : Int) := ⟨_, rfl⟩
        have hyr := hw (rd l q) (rd_mem' l q (by omega))
        rw [← hy] at hcl hyr
        rw [← hz] at hq
        have hz1 : 65 ≤ z := by omega
        have hz2 : z ≤ 90 := by omega
        have hx : strokesOf l (Pure.letters (s.data.toList.take (n + 1))) = strokesOf l (Pure.letters (s.data.toList.take n)) ++ [y] := by
          rw [htk]
          unfold strokesOf
          rw [List.map_append, hy, hq, hz]
          rfl
        have hxl : (strokesOf l (Pure.letters (s.data.toList.take n))).length ≤ 60 := by
          rw [strokesOf_len]
          have := Pure.letters_le (s.data.toList.take n)
          rw [List.length_take] at this
          omega
        obtain ⟨xs, hxs⟩ : ∃ xs, xs = strokesOf l (Pure.letters (s.data.toList.take n)) := ⟨_, rfl⟩
        rw [← hxs] at hx hxl HO
        have HX := Aside0.mk hx
        have HXL := Aside0.mk hxl
        have HXS := Aside0.mk hxs
        clear hx hxl hxs hy hb hbr hz htk h32
        have hzq : z - 65 = q := hq.symm
        have hzw : (z - 65) % 256 = q := by omega
        clear hq
        have hqw : IntKind.u8.wrap (q : Int) = q := by
          simp [IntKind.wrap, IntKind.signed, IntKind.bits]; omega
        have hq26 : (q : Int) < 26 := by omega
        have hyw : wrap64 y = y := by unfold wrap64; omega
        have hyw2 : IntKind.i64.wrap y = y := by simp [IntKind.wrap, IntKind.signed, IntKind.bits]; omega
        go_wp2_with (fail)
        refine start_ (n := 13) (S := fun w' => w'.cell? ⟨g, q, none⟩ = some (.int .i8 y) ∧ Kd.R (Kd.int .i64) 2 w' w.heap.size (fun _ => True) u5 xs ∧ Below w.heap.size w w') (ds := [11, 12]) #[false, false, false, false, false, false, false, false, false, false, false, false, false] (by kernel_rfl) rfl rfl ⟨(cellB hcl (below_drew (Below.refl _ _))), (Kd.R_drew HO.out), (below_step HB.out (below_drew (Below.refl _ _)))⟩ (fun hHeld => ?_)
        refine pure_ (i := 0) (N := some 18) (v := ?_) (a' := ?_) #[true, false, false, false, false, false, false, false, false, false, false, false, false] rfl rfl (by kernel_rfl) (fun _ _ _ h => h) (Or.inl ⟨by rfl, ?_⟩) ?_ ?_
        rotate_left
        · intro w'
          go_simp
          with_reducible rfl
        rotate_left
        · simp only [Act.put, List.setIfInBounds_toArray, List.set_cons_zero, List.set_cons_succ, i64_w, i32_w]
          rfl
        refine pure_ (i := 1) (N := some 19) (v := ?_) (a' := ?_) #[true, true, false, false, false, false, false, false, false, false, false, false, false] rfl rfl (by kernel_rfl) (fun _ _ _ h => h) (Or.inl ⟨by rfl, ?_⟩) ?_ ?_
        rotate_left
        · intro w'
          go_simp
          with_reducible rfl
        rotate_left
        · simp only [Act.put, List.setIfInBounds_toArray, List.set_cons_zero, List.set_cons_succ, i64_w, i32_w]
          rfl
        refine pure_ (i := 2) (N := some 20) (v := ?_) (a' := ?_) #[true, true, true, false, false, false, false, false, false, false, false, false, false] rfl rfl (by kernel_rfl) (fun _ _ _ h => h) (Or.inl ⟨by rfl, ?_⟩) ?_ ?_
        rotate_left
        · intro w'
          go_simp
          with_reducible rfl
        rotate_left
        · simp only [Act.put, List.setIfInBounds_toArray, List.set_cons_zero, List.set_cons_succ, i64_w, i32_w]
          rfl
        refine pure_ (i := 3) (N := some 21) (v := ?_) (a' := ?_) #[true, true, true, true, false, false, false, false, false, false, false, false, false] rfl rfl (by kernel_rfl) (fun _ _ _ h => h) (Or.inl ⟨by rfl, ?_⟩) ?_ ?_
        rotate_left
        · intro w'
          go_simp
          with_reducible rfl
        rotate_left
        · simp only [Act.put, List.setIfInBounds_toArray, List.set_cons_zero, List.set_cons_succ, i64_w, i32_w]
          rfl
        refine pure_ (i := 6) (N := some 24) (v := ?_) (a' := ?_) #[true, true, true, true, false, false, true, false, false, false, false, false, false] rfl rfl (by kernel_rfl) (fun _ _ _ h => h) (Or.inl ⟨by rfl, ?_⟩) ?_ ?_
        rotate_left
        · intro w'
          go_simp
          with_reducible rfl
        rotate_left
        · simp only [Act.put, List.setIfInBounds_toArray, List.set_cons_zero, List.set_cons_succ, i64_w, i32_w]
          rfl
        refine take_ (i := 4) (N := some 22) (v := ?_) (a' := ?_) #[true, true, true, true, true, false, true, false, false, false, false, false, false] rfl rfl (by kernel_rfl) (fun _ _ _ h => h) (Or.inl ⟨by rfl, ?_⟩) hHeld ?_ ?_
        rotate_left
        · rintro w' ⟨s0, s1, s2⟩
          go_simp
          with_reducible rfl
        rotate_left
        · simp only [Act.put, List.setIfInBounds_toArray, List.set_cons_zero, List.set_cons_succ, i64_w, i32_w]
          rfl
        refine pure_ (i := 5) (N := some 23) (v := ?_) (a' := ?_) #[true, true, true, true, true, true, true, false, false, false, false, false, false] rfl rfl (by kernel_rfl) (fun _ _ _ h => h) (Or.inl ⟨by rfl, ?_⟩) ?_ ?_
        rotate_left
        · intro w'
          go_simp
          with_reducible rfl
        rotate_left
        · simp only [Act.put, List.setIfInBounds_toArray, List.set_cons_zero, List.set_cons_succ, i64_w, i32_w]
          rfl
        refine pure_ (i := 7) (N := some 25) (v := ?_) (a' := ?_) #[true, true, true, true, true, true, true, true, false, false, false, false, false] rfl rfl (by kernel_rfl) (fun _ _ _ h => h) (Or.inl ⟨by rfl, ?_⟩) ?_ ?_
        rotate_left
        · intro w'
          go_simp
          with_reducible rfl
        rotate_left
        · simp only [Act.put, List.setIfInBounds_toArray, List.set_cons_zero, List.set_cons_succ, i64_w, i32_w]
          rfl
        refine take_ (i := 8) (N := some 26) (v := ?_) (a' := ?_) #[true, true, true, true, true, true, true, true, true, false, false, false, false] rfl rfl (by kernel_rfl) (fun _ _ _ h => h) (Or.inl ⟨by rfl, ?_⟩) hHeld ?_ ?_
        rotate_left
        · rintro w' ⟨s0, s1, s2⟩
          go_simp
          with_reducible rfl
        rotate_left
        · simp only [Act.put, List.setIfInBounds_toArray, List.set_cons_zero, List.set_cons_succ, i64_w, i32_w]
          rfl
        refine pure_ (i := 9) (N := some 27) (v := ?_) (a' := ?_) #[true, true, true, true, true, true, true, true, true, true, false, false, false] rfl rfl (by kernel_rfl) (fun _ _ _ h => h) (Or.inl ⟨by rfl, ?_⟩) ?_ ?_
        rotate_left
        · intro w'
          go_simp
          with_reducible rfl
        rotate_left
        · simp only [Act.put, List.setIfInBounds_toArray, List.set_cons_zero, List.set_cons_succ, i64_w, i32_w]
          rfl
        refine one_ (i := 10) (N := some 28) #[true, true, true, true, true, true, true, true, true, true, true, false, false] rfl rfl (by kernel_rfl) (by decide) (fun K hK => ?_)
        have hPre := hHeld
        refine value_ (w1 := ?_) (v := ?_) (by rfl) rfl ?_ ?_
        rotate_left 2
        · go_simp
          constructor
          · rfl
          · rfl
        refine hK.out _ _ ⟨(cellB hHeld.1 (below_alloc (Below.refl _ _) _)), (Kd.R_alloc hHeld.2.1 _), (below_alloc hHeld.2.2 _)⟩ (fun hHeld => ?_)
        clear hK K
        refine norm_ (a' := ?_) ?_ ?_
        rotate_left
        · show Act.put _ (some 28) _ = _
          simp only [Act.put, List.setIfInBounds_toArray, List.set_cons_zero, List.set_cons_succ, i64_w, i32_w]
          rfl
        refine last_ (i := 11) (N := some 29) #[true, true, true, true, true, true, true, true, true, true, true, true, false] rfl rfl (by kernel_rfl) (by decide) (fun K hK => ?_)
        refine Kd.R_append_step (Kd.int .i64) (w0 := w) w.heap.size (by rfl) (.tmp 18) (.tmp 28) 46 2 (.int .i64 0) 8 rfl Tryd.underlying46 info_i64 rfl (by decide) (by omega) u5 xs y [.int .i64 y] (fun _ => True) (fun _ => False) rfl rfl rfl (fun _ hk => hk.elim) (fun _ _ => trivial) hPre.2.1 hPre.2.2 (below_size hPre.2.2) (by have := HXL.out; omega) ?_
        intro v29 w9 ho hb hg hat
        refine hK.out _ _ ?_
        clear hK K
        refine norm_ (a' := ?_) ?_ ?_
        rotate_left
        · show Act.put _ (some 29) _ = _
          simp only [Act.put, List.setIfInBounds_toArray, List.set_cons_zero, List.set_cons_succ, i64_w, i32_w]
          rfl
        refine pure_ (i := 12) (N := some 5) (v := ?_) (a' := ?_) #[true, true, true, true, true, true, true, true, true, true, true, true, true] rfl rfl (by kernel_rfl) (fun _ _ _ h => h) (Or.inl ⟨by rfl, ?_⟩) ?_ ?_
        rotate_left
        · intro w'
          go_simp
          with_reducible rfl
        rotate_left
        · simp only [Act.put, List.setIfInBounds_toArray, List.set_cons_zero, List.set_cons_succ, i64_w, i32_w]
          rfl
        refine done_ (by kernel_rfl) ?_
        go_wp2_with (fail)
        go_roundw
        case rel => exact ⟨n + 1, by omega, by go_num, ⟨by rw [HX.out]; exact ho⟩, ⟨hb⟩⟩
        case measure => simp [intOf]; omega
    · have hltz : ¬ (n : Int) < s.size := by omega
      obtain rfl : n = s.size := by omega
      go_wp2
      go_ret
      refine ⟨_, rfl, ?_, HB.out⟩
      have := HO.out
      rwa [List.take_of_length_le (by rw [HLen.out]; exact Nat.le_refl _)] at this
end Go.Proofs.YthdoeefaibeodaaDoor.Ext
