/- SharpensFor, in the program and in the reference, and its law. -/
import Derived.Test.YthdoeefaibeodaaDoorTime
import Derived.Test.YthdoeefaibeodaaDoorHarn
namespace Go.Proofs.YthdoeefaibeodaaDoor.Ext
open Go.RowKit Go.Proofs.YthdoeefaibeodaaDoor.Q Go.Proofs.YthdoeefaibeodaaDoor.Txt Go.Proofs.YthdoeefaibeodaaDoorW.PrintWords Go.Proofs.YthdoeefaibeodaaDoorW.PrintLast Go.Proofs.YthdoeefaibeodaaDoorW.PrintMore
set_option linter.unusedVariables false
set_option linter.unusedSimpArgs false
/-- What SharpensFor answers. -/
def sfC (l : List Int) (a b : Int) (s : ByteArray) : List Int × Int := if okC l a b s then (Pure.shp a 0 0 (strokesOf l (Pure.letters s.data.toList)), 0) else ([], 1)
theorem sfC_f {l : List Int} {a b : Int} {s : ByteArray} (h : okC l a b s = false) : sfC l a b s = ([], 1) := by unfold sfC; rw [h]; rfl
theorem sfC_t {l : List Int} {a b : Int} {s : ByteArray} (h : okC l a b s = true) : sfC l a b s = (Pure.shp a 0 0 (strokesOf l (Pure.letters s.data.toList)), 0) := by unfold sfC; rw [h]; rfl
theorem sfC_len (l : List Int) (a b : Int) (s : ByteArray) : (sfC l a b s).1.length ≤ 60 := by
  cases h : okC l a b s
  · rw [sfC_f h]; simp
  · rw [sfC_t h]
    have h1 := Pure.shp_len a (strokesOf l (Pure.letters s.data.toList)) 0 0
    have h2 := strokes60 l (txt60 (okC_3 h))
    show (Pure.shp _ _ _ _).length ≤ 60
    omega
set_option maxHeartbeats 1000000 in
theorem specSharp_calls (l : List Int) (hl : l.length = 26) (hw : ∀ y ∈ l, -128 ≤ y ∧ y ≤ 127) (a b : Int) (ha : -32768 ≤ a ∧ a ≤ 32767) (hb' : -128 ≤ b ∧ b ≤ 127) (s : ByteArray) (hs : s.size ≤ 1048576) (w : World) :
    Calls Tryd.prog 37 #[.agg (cellsK .i8 l), .agg #[.int .i16 a, .int .i8 b], .string s] w fun e w' => ∃ v0_ : Value, e = .returned (.tuple #[v0_, .int .i64 (sfC l a b s).2]) ∧ Kd.R (Kd.int .i64) 2 w' w.heap.size (fun _ => True) v0_ (sfC l a b s).1 ∧ Below w.heap.size w w' := by
  have B0 := Aside0.mk (blk_alloc (blk_new w (.cells (cellsK .i8 l) 25)) (.cells #[.int .i16 a, .int .i8 b] 54))
  have B1 := Aside0.mk (blk_at (W := w.alloc (.cells (cellsK .i8 l) 25)) (n := w.heap.size + 1) (by simp) (.cells #[.int .i16 a, .int .i8 b] 54))
  have HB := Aside0.mk (below_alloc (below_alloc (Below.refl w.heap.size w) (.cells (cellsK .i8 l) 25)) (.cells #[.int .i16 a, .int .i8 b] 54))
  have HS := Aside0.mk hs
  clear hs
  cases hok : okC l a b s
  all_goals
    have HOK := Aside0.mk hok
    clear hok
    go_enter Tryd.func37, Tryd.ntmps37
    go_wp2_with fail
    refine (asked_at _ _ _ l hl hw a b ha hb' s HS.out _ B0.out B1.out HOK.out).mono ?_
    rintro e w1 ⟨rfl, hb⟩
    replace B0 := Aside0.mk (blk_below B0.out hb)
    replace B1 := Aside0.mk (blk_below B1.out hb)
    replace HB := Aside0.mk (below_step HB.out hb)
    clear hb
    simp only [codeOf]
  · go_wp2_with (first | ((with_reducible refine gate_dst (N := 13) rfl ?_); refine Kd.R_lit (Kd.int .i64) _ 2 ?hg (N := 13) ?hd (xs := ([] : List Int)) (inner := []) (ok := fun _ => True) (okp := fun _ => True) ?hr ?hp (fun _ hk => hk) trivial (Below.refl _ _) (Nat.le_refl _) (by simp) ?_; (case hd => rfl); (case hg => rfl); (case hr => first | (go_simp; done) | (go_simp; rfl)); (case hp => exact (Reps.none _ _)); intro v8 w3 ho4 hb hg_ hnew_; clear hg_ hnew_; have HO := Aside0.mk (Kd.R_lower ho4 (below_size HB.out)); have n1_ := Aside0.mk (below_step HB.out hb); clear HB; have HB := n1_; clear n1_; clear hb ho4))
    go_ret2
    rw [sfC_f HOK.out]
    exact ⟨_, rfl, HO.out, HB.out⟩
  · go_wp2_with fail
    have HTx := Aside0.mk (okC_3 HOK.out)
    refine (l05List_calls _ l hl hw s (txt60 HTx.out) (txt_letters HTx.out) _ B0.out).mono ?_
    rintro e w3 ⟨v, rfl, ho, hb⟩
    have HO := Aside0.mk ho
    replace B1 := Aside0.mk (blk_below B1.out hb)
    replace HB := Aside0.mk (below_step HB.out hb)
    clear ho hb B0
    obtain ⟨A, c, rfl, hc, hr⟩ := Kd.R_reads HO.out
    have HR := Aside0.mk hr
    have HC := Aside0.mk hc
    clear hr hc
    go_wp2_with fail
    have HLow := Aside0.mk (below_size HB.out)
    refine (sharpens_calls _ a b A c _ _ B1.out HR.out HC.out (by have := strokes60 l (txt60 HTx.out); omega) (apart_of HO.out B1.out (by simp))).mono ?_
    rintro e w4 ⟨v, rfl, ho, hb⟩
    replace HB := Aside0.mk (below_step HB.out hb)
    clear hb
    go_wp2_with fail
    go_ret2
    rw [sfC_t HOK.out]
    exact ⟨_, rfl, Kd.R_lower ho HLow.out, HB.out⟩
set_option maxHeartbeats 1000000 in
set_option maxRecDepth 10000 in
theorem implSharp_calls (l : List Int) (hl : l.length = 26) (hw : ∀ y ∈ l, -128 ≤ y ∧ y ≤ 127) (a b : Int) (ha : -32768 ≤ a ∧ a ≤ 32767) (hb' : -128 ≤ b ∧ b ≤ 127) (s : ByteArray) (w : World) (hG : GlobM w) :
    Calls Tryd.prog 38 #[.agg (cellsK .i8 l), .agg #[.int .i16 a, .int .i8 b], .string s] w fun e w' => ∃ v0_ : Value, e = .returned (.tuple #[v0_, .int .i64 (sfC l a b s).2]) ∧ Kd.R (Kd.int .i64) 2 w' w.heap.size (fun _ => True) v0_ (sfC l a b s).1 ∧ Below w.heap.size w w' := by
  have B0 := Aside0.mk (blk_alloc (blk_new w (.cells (cellsK .i8 l) 25)) (.cells #[.int .i16 a, .int .i8 b] 54))
  have B1 := Aside0.mk (blk_at (W := w.alloc (.cells (cellsK .i8 l) 25)) (n := w.heap.size + 1) (by simp) (.cells #[.int .i16 a, .int .i8 b] 54))
  have HB := Aside0.mk (below_alloc (below_alloc (Below.refl w.heap.size w) (.cells (cellsK .i8 l) 25)) (.cells #[.int .i16 a, .int .i8 b] 54))
  have hsz : (Tryd.prog.info? 25).map (·.size) = some (cellsK .i8 l).size := by rw [cellsK_size, hl]; exact info_Strokes
  have HSZ := Aside0.mk hsz
  have HSY : Aside0 ((Tryd.prog.info? 54).map (·.size) = some (#[.int .i16 a, .int .i8 b] : Array Value).size) := ⟨(by kernel_rfl : (Tryd.prog.info? 54).map (·.size) = some 2)⟩
  have HG := Aside0.mk hG
  clear hsz hG
  cases hok : okC l a b s
  all_goals
    have HOK := Aside0.mk hok
    clear hok
    go_enter Tryd.func38, Tryd.ntmps38
    go_wp2_with (first | ((with_reducible refine gate_dst (N := 11) rfl ?_); refine wpList_load_row rfl 25 (.tmp 3) rfl w.heap.size rfl _ _ _ _ B0.out Tryd.underlying25 rfl HSZ.out ?_) | ((with_reducible refine gate_dst (N := 12) rfl ?_); refine wpList_load_row rfl 54 (.tmp 4) rfl (w.heap.size + 1) rfl _ _ _ _ B1.out Tryd.underlying54 rfl HSY.out ?_) | fail)
    refine (chiselCode_at _ l hl hw a b ha hb' s _ (HG.out.below HB.out) HOK.out).mono ?_
    rintro e w1 ⟨rfl, hb⟩
    replace B0 := Aside0.mk (blk_below B0.out hb)
    replace B1 := Aside0.mk (blk_below B1.out hb)
    replace HB := Aside0.mk (below_step HB.out hb)
    clear hb
    simp only [codeOf]
    go_wp2_with fail
  · go_ret2
    rw [sfC_f HOK.out]
    exact ⟨_, rfl, Kd.R_nil _ _ _ _ _, HB.out⟩
  · have HTx := Aside0.mk (okC_3 HOK.out)
    refine start_ (n := 10) (S := fun w' => w'.heap[w.heap.size]? = some (.cells (cellsK .i8 l) 25 (0, 0)) ∧ w'.heap[w.heap.size + 1]? = some (.cells #[.int .i16 a, .int .i8 b] 54 (0, 0)) ∧ Below w.heap.size w w') (ds := []) #[false, false, false, false, false, false, false, false, false, false] (by kernel_rfl) rfl rfl ⟨(blk_below B0.out (below_drew (Below.refl _ _))), (blk_below B1.out (below_drew (Below.refl _ _))), (below_step HB.out (below_drew (Below.refl _ _)))⟩ (fun hHeld => ?_)
    refine pure_ (i := 2) (N := some 21) (v := ?_) (a' := ?_) #[false, false, true, false, false, false, false, false, false, false] rfl rfl (by kernel_rfl) (fun _ _ _ h => h) (Or.inl ⟨by rfl, ?_⟩) ?_ ?_
    rotate_left
    · intro w'
      go_simp
      with_reducible rfl
    rotate_left
    · simp only [Act.put, List.setIfInBounds_toArray, List.set_cons_zero, List.set_cons_succ, i64_w, i32_w]
      rfl
    refine take_ (i := 0) (N := some 19) (v := ?_) (a' := ?_) #[true, false, true, false, false, false, false, false, false, false] rfl rfl (by kernel_rfl) (fun _ _ _ h => h) (Or.inl ⟨by rfl, ?_⟩) hHeld ?_ ?_
    rotate_left
    · rintro w' ⟨s0, s1, s2⟩
      refine exec_load_row 54 (.tmp 4) ?_ (w.heap.size + 1) ?_ _ _ _ _ s1 Tryd.underlying54 rfl HSY.out
      · rfl
      · rfl
    rotate_left
    · simp only [Act.put, List.setIfInBounds_toArray, List.set_cons_zero, List.set_cons_succ, i64_w, i32_w]
      rfl
    refine take_ (i := 1) (N := some 20) (v := ?_) (a' := ?_) #[true, true, true, false, false, false, false, false, false, false] rfl rfl (by kernel_rfl) (fun _ _ _ h => h) (Or.inl ⟨by rfl, ?_⟩) hHeld ?_ ?_
    rotate_left
    · rintro w' ⟨s0, s1, s2⟩
      refine exec_load_row 25 (.tmp 3) ?_ w.heap.size ?_ _ _ _ _ s0 Tryd.underlying25 rfl HSZ.out
      · rfl
      · rfl
    rotate_left
    · simp only [Act.put, List.setIfInBounds_toArray, List.set_cons_zero, List.set_cons_succ, i64_w, i32_w]
      rfl
    refine one_ (i := 3) (N := some 22) #[true, true, true, true, false, false, false, false, false, false] rfl rfl (by kernel_rfl) (by decide) (fun K hK => ?_)
    refine goes_ Tryd.func70 (by kernel_rfl) rfl #[.agg (cellsK .i8 l), .string s] (by rfl) rfl rfl (by simp only [List.map_toArray, List.map_cons, List.map_nil]; rfl) ?_
    with_reducible refine ((each_calls l hl hw s (txt60 HTx.out) (txt_letters HTx.out) _ (HG.out.below hHeld.2.2))).mono ?_
    rintro e w3 ⟨v, rfl, ho, hb⟩
    refine ⟨_, rfl, ?_⟩
    obtain ⟨A, c, rfl, hc, hr⟩ := Kd.R_reads ho
    refine hK.out _ _ ⟨(blk_below hHeld.1 hb), (blk_below hHeld.2.1 hb), (below_step hHeld.2.2 hb)⟩ (fun hHeld => ?_)
    clear hK K
    refine norm_ (a' := ?_) ?_ ?_
    rotate_left
    · show Act.put _ (some 22) _ = _
      simp only [Act.put, List.setIfInBounds_toArray, List.set_cons_zero, List.set_cons_succ, i64_w, i32_w]
      rfl
    refine one_ (i := 4) (N := some 23) #[true, true, true, true, true, false, false, false, false, false] rfl rfl (by kernel_rfl) (by decide) (fun K hK => ?_)
    have hLow := hHeld.2.2
    refine goes_ Tryd.func79 (by kernel_rfl) rfl #[.agg #[.int .i16 a, .int .i8 b], .slice A (strokesOf l (Pure.letters s.data.toList)).length c] (by rfl) rfl rfl (by simp only [List.map_toArray, List.map_cons, List.map_nil]; rfl) ?_
    with_reducible refine ((impl_Chisel_cut.calls 100 a b A c _ _ _ _ hr hc (Pure.cut_eq a b _ (by have := strokes60 l (txt60 HTx.out); omega) (by have := strokes60 l (txt60 HTx.out); omega)))).mono ?_
    rintro e w3 ⟨v1, v2, rfl, ho1, ho2, hb⟩
    refine ⟨_, rfl, ?_⟩
    refine hK.out _ _ ⟨(blk_below hHeld.1 hb), (blk_below hHeld.2.1 hb), (below_step hHeld.2.2 hb)⟩ (fun hHeld => ?_)
    clear hK K
    refine norm_ (a' := ?_) ?_ ?_
    rotate_left
    · show Act.put _ (some 23) _ = _
      simp only [Act.put, List.setIfInBounds_toArray, List.set_cons_zero, List.set_cons_succ, i64_w, i32_w]
      rfl
    refine pure_ (i := 5) (N := some 18) (v := ?_) (a' := ?_) #[true, true, true, true, true, true, false, false, false, false] rfl rfl (by kernel_rfl) (fun _ _ _ h => h) (Or.inl ⟨by rfl, ?_⟩) ?_ ?_
    rotate_left
    · intro w'
      go_simp
      with_reducible rfl
    rotate_left
    · simp only [Act.put, List.setIfInBounds_toArray, List.set_cons_zero, List.set_cons_succ, i64_w, i32_w]
      rfl
    refine pure_ (i := 6) (N := some 24) (v := ?_) (a' := ?_) #[true, true, true, true, true, true, true, false, false, false] rfl rfl (by kernel_rfl) (fun _ _ _ h => h) (Or.inl ⟨by rfl, ?_⟩) ?_ ?_
    rotate_left
    · intro w'
      go_simp
      with_reducible rfl
    rotate_left
    · simp only [Act.put, List.setIfInBounds_toArray, List.set_cons_zero, List.set_cons_succ, i64_w, i32_w]
      rfl
    refine pure_ (i := 7) (N := some 25) (v := ?_) (a' := ?_) #[true, true, true, true, true, true, true, true, false, false] rfl rfl (by kernel_rfl) (fun _ _ _ h => h) (Or.inl ⟨by rfl, ?_⟩) ?_ ?_
    rotate_left
    · intro w'
      go_simp
      with_reducible rfl
    rotate_left
    · simp only [Act.put, List.setIfInBounds_toArray, List.set_cons_zero, List.set_cons_succ, i64_w, i32_w]
      rfl
    refine pure_ (i := 8) (N := some 9) (v := ?_) (a' := ?_) #[true, true, true, true, true, true, true, true, true, false] rfl rfl (by kernel_rfl) (fun _ _ _ h => h) (Or.inl ⟨by rfl, ?_⟩) ?_ ?_
    rotate_left
    · intro w'
      go_simp
      with_reducible rfl
    rotate_left
    · simp only [Act.put, List.setIfInBounds_toArray, List.set_cons_zero, List.set_cons_succ, i64_w, i32_w]
      rfl
    refine pure_ (i := 9) (N := some 10) (v := ?_) (a' := ?_) #[true, true, true, true, true, true, true, true, true, true] rfl rfl (by kernel_rfl) (fun _ _ _ h => h) (Or.inl ⟨by rfl, ?_⟩) ?_ ?_
    rotate_left
    · intro w'
      go_simp
      with_reducible rfl
    rotate_left
    · simp only [Act.put, List.setIfInBounds_toArray, List.set_cons_zero, List.set_cons_succ, i64_w, i32_w]
      rfl
    refine done_ (by kernel_rfl) ?_
    go_wp2_with fail
    go_ret2
    rw [sfC_t HOK.out]
    exact ⟨_, rfl, R_flatI (Kd.R_lower ho2 (below_size hLow)) (fun _ _ => trivial), hHeld.2.2⟩
set_option maxHeartbeats 1000000 in
set_option maxRecDepth 10000 in
theorem FnExactSharpensFor_calls (l : List Int) (hl : l.length = 26) (hwf : ∀ y ∈ l, (Lit.int .i8 y).wf = true) (a b : Int) (wa : (Lit.int .i16 a).wf = true) (wb : (Lit.int .i8 b).wf = true) (s : ByteArray) (w : World) (hG : GlobM w) :
    Calls Tryd.prog 10 #[.agg (cellsK .i8 l), .agg #[.int .i16 a, .int .i8 b], .string s] w fun e w' => e = .returned (.bool true) ∧ Below w.heap.size w w' := by
  have hw := wf8 hwf
  have ha : -32768 ≤ a ∧ a ≤ 32767 := by simpa [Lit.wf, IntKind.min, IntKind.max, IntKind.signed, IntKind.bits] using wa
  have hb' : -128 ≤ b ∧ b ≤ 127 := by simpa [Lit.wf, IntKind.min, IntKind.max, IntKind.signed, IntKind.bits] using wb
  clear wa wb hwf
  have B0 := Aside0.mk (blk_alloc (blk_new w (.cells (cellsK .i8 l) 23)) (.cells #[.int .i16 a, .int .i8 b] 52))
  have B1 := Aside0.mk (blk_at (W := w.alloc (.cells (cellsK .i8 l) 23)) (n := w.heap.size + 1) (by simp) (.cells #[.int .i16 a, .int .i8 b] 52))
  have HB := Aside0.mk (below_alloc (below_alloc (Below.refl w.heap.size w) (.cells (cellsK .i8 l) 23)) (.cells #[.int .i16 a, .int .i8 b] 52))
  have hsz : (Tryd.prog.info? 23).map (·.size) = some (cellsK .i8 l).size := by rw [cellsK_size, hl]; kernel_rfl
  have HSZ := Aside0.mk hsz
  have HSY : Aside0 ((Tryd.prog.info? 52).map (·.size) = some (#[.int .i16 a, .int .i8 b] : Array Value).size) := ⟨(by kernel_rfl : (Tryd.prog.info? 52).map (·.size) = some 2)⟩
  have HG := Aside0.mk hG
  clear hsz hG
  go_enter Tryd.func10, Tryd.ntmps10
  by_cases hs : s.size ≤ 1048576
  · have hs1 : decide ((s.size : Int) > 1048576) = false := by simp; omega
    have hs2 : decide ((1048576 : Int) < s.size) = false := by simp; omega
    have HS := Aside0.mk hs
    clear hs
    go_wp2_with fail
    refine start_ (n := 11) (S := fun w' => w'.heap[w.heap.size]? = some (.cells (cellsK .i8 l) 23 (0, 0)) ∧ w'.heap[w.heap.size + 1]? = some (.cells #[.int .i16 a, .int .i8 b] 52 (0, 0)) ∧ Below w.heap.size w w') (ds := []) #[false, false, false, false, false, false, false, false, false, false, false] (by kernel_rfl) rfl rfl ⟨(blk_below B0.out (below_drew (Below.refl _ _))), (blk_below B1.out (below_drew (Below.refl _ _))), (below_step HB.out (below_drew (Below.refl _ _)))⟩ (fun hHeld => ?_)
    refine pure_ (i := 4) (N := some 23) (v := ?_) (a' := ?_) #[false, false, false, false, true, false, false, false, false, false, false] rfl rfl (by kernel_rfl) (fun _ _ _ h => h) (Or.inl ⟨by rfl, ?_⟩) ?_ ?_
    rotate_left
    · intro w'
      go_simp
      with_reducible rfl
    rotate_left
    · simp only [Act.put, List.setIfInBounds_toArray, List.set_cons_zero, List.set_cons_succ, i64_w, i32_w]
      rfl
    refine take_ (i := 0) (N := some 19) (v := ?_) (a' := ?_) #[true, false, false, false, true, false, false, false, false, false, false] rfl rfl (by kernel_rfl) (fun _ _ _ h => h) (Or.inl ⟨by rfl, ?_⟩) hHeld ?_ ?_
    rotate_left
    · rintro w' ⟨s0, s1, s2⟩
      refine exec_load_row 23 (.tmp 3) ?_ w.heap.size ?_ _ _ _ _ s0 Tryd.underlying23 rfl HSZ.out
      · rfl
      · rfl
    rotate_left
    · simp only [Act.put, List.setIfInBounds_toArray, List.set_cons_zero, List.set_cons_succ, i64_w, i32_w]
      rfl
    refine take_ (i := 2) (N := some 21) (v := ?_) (a' := ?_) #[true, false, true, false, true, false, false, false, false, false, false] rfl rfl (by kernel_rfl) (fun _ _ _ h => h) (Or.inl ⟨by rfl, ?_⟩) hHeld ?_ ?_
    rotate_left
    · rintro w' ⟨s0, s1, s2⟩
      refine exec_load_row 52 (.tmp 4) ?_ (w.heap.size + 1) ?_ _ _ _ _ s1 Tryd.underlying52 rfl HSY.out
      · rfl
      · rfl
    rotate_left
    · simp only [Act.put, List.setIfInBounds_toArray, List.set_cons_zero, List.set_cons_succ, i64_w, i32_w]
      rfl
    refine one_ (i := 1) (N := some 20) #[true, true, true, false, true, false, false, false, false, false, false] rfl rfl (by kernel_rfl) (by decide) (fun K hK => ?_)
    refine goes_ Tryd.func16 (by kernel_rfl) rfl #[.agg (cellsK .i8 l)] (by rfl) rfl rfl (by simp only [List.map_toArray, List.map_cons, List.map_nil]; rfl) ?_
    with_reducible refine ((laws_toStrokes_calls l hl _)).mono ?_
    rintro e w3 ⟨rfl, hb⟩
    refine ⟨_, rfl, ?_⟩
    refine hK.out _ _ ⟨(blk_below hHeld.1 hb), (blk_below hHeld.2.1 hb), (below_step hHeld.2.2 hb)⟩ (fun hHeld => ?_)
    clear hK K
    refine norm_ (a' := ?_) ?_ ?_
    rotate_left
    · show Act.put _ (some 20) _ = _
      simp only [Act.put, List.setIfInBounds_toArray, List.set_cons_zero, List.set_cons_succ, i64_w, i32_w]
      rfl
    refine one_ (i := 3) (N := some 22) #[true, true, true, true, true, false, false, false, false, false, false] rfl rfl (by kernel_rfl) (by decide) (fun K hK => ?_)
    refine goes_ Tryd.func35 (by kernel_rfl) rfl #[.agg #[.int .i16 a, .int .i8 b]] (by rfl) rfl rfl (by simp only [List.map_toArray, List.map_cons, List.map_nil]; rfl) ?_
    with_reducible refine ((toChisel_calls a b _)).mono ?_
    rintro e w3 ⟨rfl, hb⟩
    refine ⟨_, rfl, ?_⟩
    refine hK.out _ _ ⟨(blk_below hHeld.1 hb), (blk_below hHeld.2.1 hb), (below_step hHeld.2.2 hb)⟩ (fun hHeld => ?_)
    clear hK K
    refine norm_ (a' := ?_) ?_ ?_
    rotate_left
    · show Act.put _ (some 22) _ = _
      simp only [Act.put, List.setIfInBounds_toArray, List.set_cons_zero, List.set_cons_succ, i64_w, i32_w]
      rfl
    refine one_ (i := 5) (N := some 24) #[true, true, true, true, true, true, false, false, false, false, false] rfl rfl (by kernel_rfl) (by decide) (fun K hK => ?_)
    have hLow := hHeld.2.2
    refine goes_ Tryd.func37 (by kernel_rfl) rfl #[.agg (cellsK .i8 l), .agg #[.int .i16 a, .int .i8 b], .string s] (by rfl) rfl rfl (by simp only [List.map_toArray, List.map_cons, List.map_nil]; rfl) ?_
    with_reducible refine ((specSharp_calls l hl hw a b ha hb' s HS.out _)).mono ?_
    rintro e w3 ⟨v, rfl, ho, hb⟩
    refine ⟨_, rfl, ?_⟩
    obtain ⟨AW, cW, rfl, hcW, hrW⟩ := Kd.R_reads ho
    refine hK.out _ _ ⟨(blk_below hHeld.1 hb), (blk_below hHeld.2.1 hb), (below_step hHeld.2.2 hb)⟩ (fun hHeld => ?_)
    clear hK K
    refine norm_ (a' := ?_) ?_ ?_
    rotate_left
    · show Act.put _ (some 24) _ = _
      simp only [Act.put, List.setIfInBounds_toArray, List.set_cons_zero, List.set_cons_succ, i64_w, i32_w]
      rfl
    refine pure_ (i := 6) (N := some 18) (v := ?_) (a' := ?_) #[true, true, true, true, true, true, true, false, false, false, false] rfl rfl (by kernel_rfl) (fun _ _ _ h => h) (Or.inl ⟨by rfl, ?_⟩) ?_ ?_
    rotate_left
    · intro w'
      go_simp
      with_reducible rfl
    rotate_left
    · simp only [Act.put, List.setIfInBounds_toArray, List.set_cons_zero, List.set_cons_succ, i64_w, i32_w]
      rfl
    refine pure_ (i := 7) (N := some 25) (v := ?_) (a' := ?_) #[true, true, true, true, true, true, true, true, false, false, false] rfl rfl (by kernel_rfl) (fun _ _ _ h => h) (Or.inl ⟨by rfl, ?_⟩) ?_ ?_
    rotate_left
    · intro w'
      go_simp
      with_reducible rfl
    rotate_left
    · simp only [Act.put, List.setIfInBounds_toArray, List.set_cons_zero, List.set_cons_succ, i64_w, i32_w]
      rfl
    refine pure_ (i := 8) (N := some 26) (v := ?_) (a' := ?_) #[true, true, true, true, true, true, true, true, true, false, false] rfl rfl (by kernel_rfl) (fun _ _ _ h => h) (Or.inl ⟨by rfl, ?_⟩) ?_ ?_
    rotate_left
    · intro w'
      go_simp
      with_reducible rfl
    rotate_left
    · simp only [Act.put, List.setIfInBounds_toArray, List.set_cons_zero, List.set_cons_succ, i64_w, i32_w]
      rfl
    refine pure_ (i := 9) (N := some 7) (v := ?_) (a' := ?_) #[true, true, true, true, true, true, true, true, true, true, false] rfl rfl (by kernel_rfl) (fun _ _ _ h => h) (Or.inl ⟨by rfl, ?_⟩) ?_ ?_
    rotate_left
    · intro w'
      go_simp
      with_reducible rfl
    rotate_left
    · simp only [Act.put, List.setIfInBounds_toArray, List.set_cons_zero, List.set_cons_succ, i64_w, i32_w]
      rfl
    refine pure_ (i := 10) (N := some 8) (v := ?_) (a' := ?_) #[true, true, true, true, true, true, true, true, true, true, true] rfl rfl (by kernel_rfl) (fun _ _ _ h => h) (Or.inl ⟨by rfl, ?_⟩) ?_ ?_
    rotate_left
    · intro w'
      go_simp
      with_reducible rfl
    rotate_left
    · simp only [Act.put, List.setIfInBounds_toArray, List.set_cons_zero, List.set_cons_succ, i64_w, i32_w]
      rfl
    refine done_ (by kernel_rfl) ?_
    replace B0 := Aside0.mk hHeld.1
    replace B1 := Aside0.mk hHeld.2.1
    replace HB := Aside0.mk hHeld.2.2
    have HOW := Aside0.mk (Kd.R_lower ho (below_size hLow))
    have hn60 : (sfC l a b s).1.length ≤ 60 := sfC_len l a b s
    clear hHeld hb ho hcW hrW hLow
    obtain ⟨ls, hls⟩ : ∃ ls, ls = (sfC l a b s).1 := ⟨_, rfl⟩
    rw [← hls] at HOW hn60 ⊢
    have HLS := Aside0.mk hls
    obtain ⟨n, hn⟩ : ∃ n, n = ls.length := ⟨_, rfl⟩
    rw [← hn] at HOW hn60 ⊢
    have HN := Aside0.mk hn
    have HN60 := Aside0.mk hn60
    clear hls hn hn60
    obtain ⟨y, hy⟩ : ∃ y, y = (sfC l a b s).2 := ⟨_, rfl⟩
    rw [← hy]
    have HY := Aside0.mk hy
    clear hy
    go_wp2_with fail
    refine start_ (n := 11) (S := fun w' => w'.heap[w.heap.size]? = some (.cells (cellsK .i8 l) 23 (0, 0)) ∧ w'.heap[w.heap.size + 1]? = some (.cells #[.int .i16 a, .int .i8 b] 52 (0, 0)) ∧ Below w.heap.size w w' ∧ Kd.R (Kd.int .i64) 2 w' w.heap.size (fun _ => True) (.slice AW n cW) ls) (ds := []) #[false, false, false, false, false, false, false, false, false, false, false] (by kernel_rfl) rfl rfl ⟨(blk_below B0.out (below_drew (Below.refl _ _))), (blk_below B1.out (below_drew (Below.refl _ _))), (below_step HB.out (below_drew (Below.refl _ _))), (Kd.R_drew HOW.out)⟩ (fun hHeld => ?_)
    refine pure_ (i := 4) (N := some 32) (v := ?_) (a' := ?_) #[false, false, false, false, true, false, false, false, false, false, false] rfl rfl (by kernel_rfl) (fun _ _ _ h => h) (Or.inl ⟨by rfl, ?_⟩) ?_ ?_
    rotate_left
    · intro w'
      go_simp
      with_reducible rfl
    rotate_left
    · simp only [Act.put, List.setIfInBounds_toArray, List.set_cons_zero, List.set_cons_succ, i64_w, i32_w]
      rfl
    refine take_ (i := 0) (N := some 28) (v := ?_) (a' := ?_) #[true, false, false, false, true, false, false, false, false, false, false] rfl rfl (by kernel_rfl) (fun _ _ _ h => h) (Or.inl ⟨by rfl, ?_⟩) hHeld ?_ ?_
    rotate_left
    · rintro w' ⟨s0, s1, s2, s3⟩
      refine exec_load_row 23 (.tmp 3) ?_ w.heap.size ?_ _ _ _ _ s0 Tryd.underlying23 rfl HSZ.out
      · rfl
      · rfl
    rotate_left
    · simp only [Act.put, List.setIfInBounds_toArray, List.set_cons_zero, List.set_cons_succ, i64_w, i32_w]
      rfl
    refine take_ (i := 2) (N := some 30) (v := ?_) (a' := ?_) #[true, false, true, false, true, false, false, false, false, false, false] rfl rfl (by kernel_rfl) (fun _ _ _ h => h) (Or.inl ⟨by rfl, ?_⟩) hHeld ?_ ?_
    rotate_left
    · rintro w' ⟨s0, s1, s2, s3⟩
      refine exec_load_row 52 (.tmp 4) ?_ (w.heap.size + 1) ?_ _ _ _ _ s1 Tryd.underlying52 rfl HSY.out
      · rfl
      · rfl
    rotate_left
    · simp only [Act.put, List.setIfInBounds_toArray, List.set_cons_zero, List.set_cons_succ, i64_w, i32_w]
      rfl
    refine one_ (i := 1) (N := some 29) #[true, true, true, false, true, false, false, false, false, false, false] rfl rfl (by kernel_rfl) (by decide) (fun K hK => ?_)
    refine goes_ Tryd.func16 (by kernel_rfl) rfl #[.agg (cellsK .i8 l)] (by rfl) rfl rfl (by simp only [List.map_toArray, List.map_cons, List.map_nil]; rfl) ?_
    with_reducible refine ((laws_toStrokes_calls l hl _)).mono ?_
    rintro e w3 ⟨rfl, hb⟩
    refine ⟨_, rfl, ?_⟩
    refine hK.out _ _ ⟨(blk_below hHeld.1 hb), (blk_below hHeld.2.1 hb), (below_step hHeld.2.2.1 hb), (Kd.R_below hHeld.2.2.2 hb)⟩ (fun hHeld => ?_)
    clear hK K
    refine norm_ (a' := ?_) ?_ ?_
    rotate_left
    · show Act.put _ (some 29) _ = _
      simp only [Act.put, List.setIfInBounds_toArray, List.set_cons_zero, List.set_cons_succ, i64_w, i32_w]
      rfl
    refine one_ (i := 3) (N := some 31) #[true, true, true, true, true, false, false, false, false, false, false] rfl rfl (by kernel_rfl) (by decide) (fun K hK => ?_)
    refine goes_ Tryd.func35 (by kernel_rfl) rfl #[.agg #[.int .i16 a, .int .i8 b]] (by rfl) rfl rfl (by simp only [List.map_toArray, List.map_cons, List.map_nil]; rfl) ?_
    with_reducible refine ((toChisel_calls a b _)).mono ?_
    rintro e w3 ⟨rfl, hb⟩
    refine ⟨_, rfl, ?_⟩
    refine hK.out _ _ ⟨(blk_below hHeld.1 hb), (blk_below hHeld.2.1 hb), (below_step hHeld.2.2.1 hb), (Kd.R_below hHeld.2.2.2 hb)⟩ (fun hHeld => ?_)
    clear hK K
    refine norm_ (a' := ?_) ?_ ?_
    rotate_left
    · show Act.put _ (some 31) _ = _
      simp only [Act.put, List.setIfInBounds_toArray, List.set_cons_zero, List.set_cons_succ, i64_w, i32_w]
      rfl
    refine one_ (i := 5) (N := some 33) #[true, true, true, true, true, true, false, false, false, false, false] rfl rfl (by kernel_rfl) (by decide) (fun K hK => ?_)
    have hPre := hHeld
    refine goes_ Tryd.func38 (by kernel_rfl) rfl #[.agg (cellsK .i8 l), .agg #[.int .i16 a, .int .i8 b], .string s] (by rfl) rfl rfl (by simp only [List.map_toArray, List.map_cons, List.map_nil]; rfl) ?_
    with_reducible refine ((implSharp_calls l hl hw a b ha hb' s _ (HG.out.below hHeld.2.2.1))).mono ?_
    rintro e w3 ⟨v, rfl, ho, hb⟩
    refine ⟨_, rfl, ?_⟩
    obtain ⟨AG, cG, rfl, hcG, hrG⟩ := Kd.R_reads ho
    refine hK.out _ _ ⟨(blk_below hHeld.1 hb), (blk_below hHeld.2.1 hb), (below_step hHeld.2.2.1 hb), (Kd.R_below hHeld.2.2.2 hb)⟩ (fun hHeld => ?_)
    clear hK K
    refine norm_ (a' := ?_) ?_ ?_
    rotate_left
    · show Act.put _ (some 33) _ = _
      simp only [Act.put, List.setIfInBounds_toArray, List.set_cons_zero, List.set_cons_succ, i64_w, i32_w]
      rfl
    refine pure_ (i := 6) (N := some 27) (v := ?_) (a' := ?_) #[true, true, true, true, true, true, true, false, false, false, false] rfl rfl (by kernel_rfl) (fun _ _ _ h => h) (Or.inl ⟨by rfl, ?_⟩) ?_ ?_
    rotate_left
    · intro w'
      go_simp
      with_reducible rfl
    rotate_left
    · simp only [Act.put, List.setIfInBounds_toArray, List.set_cons_zero, List.set_cons_succ, i64_w, i32_w]
      rfl
    refine pure_ (i := 7) (N := some 34) (v := ?_) (a' := ?_) #[true, true, true, true, true, true, true, true, false, false, false] rfl rfl (by kernel_rfl) (fun _ _ _ h => h) (Or.inl ⟨by rfl, ?_⟩) ?_ ?_
    rotate_left
    · intro w'
      go_simp
      with_reducible rfl
    rotate_left
    · simp only [Act.put, List.setIfInBounds_toArray, List.set_cons_zero, List.set_cons_succ, i64_w, i32_w]
      rfl
    refine pure_ (i := 8) (N := some 35) (v := ?_) (a' := ?_) #[true, true, true, true, true, true, true, true, true, false, false] rfl rfl (by kernel_rfl) (fun _ _ _ h => h) (Or.inl ⟨by rfl, ?_⟩) ?_ ?_
    rotate_left
    · intro w'
      go_simp
      with_reducible rfl
    rotate_left
    · simp only [Act.put, List.setIfInBounds_toArray, List.set_cons_zero, List.set_cons_succ, i64_w, i32_w]
      rfl
    refine pure_ (i := 9) (N := some 9) (v := ?_) (a' := ?_) #[true, true, true, true, true, true, true, true, true, true, false] rfl rfl (by kernel_rfl) (fun _ _ _ h => h) (Or.inl ⟨by rfl, ?_⟩) ?_ ?_
    rotate_left
    · intro w'
      go_simp
      with_reducible rfl
    rotate_left
    · simp only [Act.put, List.setIfInBounds_toArray, List.set_cons_zero, List.set_cons_succ, i64_w, i32_w]
      rfl
    refine pure_ (i := 10) (N := some 10) (v := ?_) (a' := ?_) #[true, true, true, true, true, true, true, true, true, true, true] rfl rfl (by kernel_rfl) (fun _ _ _ h => h) (Or.inl ⟨by rfl, ?_⟩) ?_ ?_
    rotate_left
    · intro w'
      go_simp
      with_reducible rfl
    rotate_left
    · simp only [Act.put, List.setIfInBounds_toArray, List.set_cons_zero, List.set_cons_succ, i64_w, i32_w]
      rfl
    refine done_ (by kernel_rfl) ?_
    rw [← HLS.out] at ho hcG hrG ⊢
    rw [← HN.out] at ho hcG hrG ⊢
    rw [← HY.out]
    replace B0 := Aside0.mk hHeld.1
    replace B1 := Aside0.mk hHeld.2.1
    replace HB := Aside0.mk hHeld.2.2.1
    replace HOW := Aside0.mk hHeld.2.2.2
    have HAP := Aside0.mk (R_apart hPre.2.2.2 ho)
    have HOG := Aside0.mk (Kd.R_lower ho (below_size hPre.2.2.1))
    clear hHeld hb ho hcG hrG hPre
    go_wp2_with fail
    refine (eq_calls AG AW n cG cW ls HN.out.symm _ (R_sliceI HOG.out).2.2 (R_sliceI HOG.out).2.1 (R_sliceI HOW.out).2.2 (R_sliceI HOW.out).2.1 (by have := HN60.out; omega)).mono ?_
    rintro e w7 ⟨rfl, hb⟩
    replace B0 := Aside0.mk (blk_below B0.out hb)
    replace B1 := Aside0.mk (blk_below B1.out hb)
    replace HB := Aside0.mk (below_step HB.out hb)
    replace HOW := Aside0.mk (Kd.R_below HOW.out hb)
    replace HOG := Aside0.mk (Kd.R_below HOG.out hb)
    clear hb
    go_wp2_with fail
    refine (mark_calls (.slice AG n cG) ls (by have := HN.out; have := HN60.out; omega) w _ (fun _ => True) HB.out HOG.out).mono ?_
    rintro e w8 ⟨rfl, ho, hb, hk⟩
    rw [← HN.out] at ho ⊢
    replace B0 := Aside0.mk (blk_kept B0.out hk (fun h => R_neB HOG.out B0.out (by simp) h.symm))
    replace B1 := Aside0.mk (blk_kept B1.out hk (fun h => R_neB HOG.out B1.out (by simp) h.symm))
    replace HOW := Aside0.mk (R_kept HOW.out hk (fun k h1 h2 => HAP.out k h2 h1))
    replace HOG := Aside0.mk ho
    replace HB := Aside0.mk hb
    clear hb ho hk
    have hm : Pure.marks 1 n = Pure.marks 1 n := rfl
    have HCG := Aside0.mk (show n ≤ cG ∧ ∀ {w' : World}, Kd.R (Kd.int .i64) 2 w' w.heap.size (fun _ => True) (.slice AG n cG) (Pure.marks 1 n) → Kd.C (Kd.int .i64) w' AG (Pure.marks 1 n).length (Pure.marks 1 n) from ⟨(R_sliceI HOG.out).2.1, fun h => (R_sliceI h).2.2⟩)
    clear hm
    have hnz : ((1 + (n : Int)) < 0) = False := by simp; omega
    have hnz2 : decide ((1 + (n : Int)) < 0) = false := by simp; omega
    go_wp2_with fail
    refine (held_calls AG n cG _ (HCG.out.2 HOG.out) HCG.out.1 (by have := HN60.out; omega)).mono ?_
    rintro e w9 ⟨rfl, hb⟩
    replace B0 := Aside0.mk (blk_below B0.out hb)
    replace B1 := Aside0.mk (blk_below B1.out hb)
    replace HB := Aside0.mk (below_step HB.out hb)
    replace HOW := Aside0.mk (Kd.R_below HOW.out hb)
    replace HOG := Aside0.mk (Kd.R_below HOG.out hb)
    clear hb
    go_wp2_with fail
    refine start_ (n := 11) (S := fun w' => w'.heap[w.heap.size]? = some (.cells (cellsK .i8 l) 23 (0, 0)) ∧ w'.heap[w.heap.size + 1]? = some (.cells #[.int .i16 a, .int .i8 b] 52 (0, 0)) ∧ Below w.heap.size w w' ∧ Kd.R (Kd.int .i64) 2 w' w.heap.size (fun _ => True) (.slice AW n cW) ls ∧ Kd.R (Kd.int .i64) 2 w' w.heap.size (fun _ => True) (.slice AG n cG) (Pure.marks 1 n)) (ds := []) #[false, false, false, false, false, false, false, false, false, false, false] (by kernel_rfl) rfl rfl ⟨(blk_below B0.out (below_drew (Below.refl _ _))), (blk_below B1.out (below_drew (Below.refl _ _))), (below_step HB.out (below_drew (Below.refl _ _))), (Kd.R_drew HOW.out), (Kd.R_drew HOG.out)⟩ (fun hHeld => ?_)
    refine pure_ (i := 4) (N := some 61) (v := ?_) (a' := ?_) #[false, false, false, false, true, false, false, false, false, false, false] rfl rfl (by kernel_rfl) (fun _ _ _ h => h) (Or.inl ⟨by rfl, ?_⟩) ?_ ?_
    rotate_left
    · intro w'
      go_simp
      with_reducible rfl
    rotate_left
    · simp only [Act.put, List.setIfInBounds_toArray, List.set_cons_zero, List.set_cons_succ, i64_w, i32_w]
      rfl
    refine take_ (i := 0) (N := some 57) (v := ?_) (a' := ?_) #[true, false, false, false, true, false, false, false, false, false, false] rfl rfl (by kernel_rfl) (fun _ _ _ h => h) (Or.inl ⟨by rfl, ?_⟩) hHeld ?_ ?_
    rotate_left
    · rintro w' ⟨s0, s1, s2, s3, s4⟩
      refine exec_load_row 23 (.tmp 3) ?_ w.heap.size ?_ _ _ _ _ s0 Tryd.underlying23 rfl HSZ.out
      · rfl
      · rfl
    rotate_left
    · simp only [Act.put, List.setIfInBounds_toArray, List.set_cons_zero, List.set_cons_succ, i64_w, i32_w]
      rfl
    refine take_ (i := 2) (N := some 59) (v := ?_) (a' := ?_) #[true, false, true, false, true, false, false, false, false, false, false] rfl rfl (by kernel_rfl) (fun _ _ _ h => h) (Or.inl ⟨by rfl, ?_⟩) hHeld ?_ ?_
    rotate_left
    · rintro w' ⟨s0, s1, s2, s3, s4⟩
      refine exec_load_row 52 (.tmp 4) ?_ (w.heap.size + 1) ?_ _ _ _ _ s1 Tryd.underlying52 rfl HSY.out
      · rfl
      · rfl
    rotate_left
    · simp only [Act.put, List.setIfInBounds_toArray, List.set_cons_zero, List.set_cons_succ, i64_w, i32_w]
      rfl
    refine one_ (i := 1) (N := some 58) #[true, true, true, false, true, false, false, false, false, false, false] rfl rfl (by kernel_rfl) (by decide) (fun K hK => ?_)
    refine goes_ Tryd.func16 (by kernel_rfl) rfl #[.agg (cellsK .i8 l)] (by rfl) rfl rfl (by simp only [List.map_toArray, List.map_cons, List.map_nil]; rfl) ?_
    with_reducible refine ((laws_toStrokes_calls l hl _)).mono ?_
    rintro e w3 ⟨rfl, hb⟩
    refine ⟨_, rfl, ?_⟩
    refine hK.out _ _ ⟨(blk_below hHeld.1 hb), (blk_below hHeld.2.1 hb), (below_step hHeld.2.2.1 hb), (Kd.R_below hHeld.2.2.2.1 hb), (Kd.R_below hHeld.2.2.2.2 hb)⟩ (fun hHeld => ?_)
    clear hK K
    refine norm_ (a' := ?_) ?_ ?_
    rotate_left
    · show Act.put _ (some 58) _ = _
      simp only [Act.put, List.setIfInBounds_toArray, List.set_cons_zero, List.set_cons_succ, i64_w, i32_w]
      rfl
    refine one_ (i := 3) (N := some 60) #[true, true, true, true, true, false, false, false, false, false, false] rfl rfl (by kernel_rfl) (by decide) (fun K hK => ?_)
    refine goes_ Tryd.func35 (by kernel_rfl) rfl #[.agg #[.int .i16 a, .int .i8 b]] (by rfl) rfl rfl (by simp only [List.map_toArray, List.map_cons, List.map_nil]; rfl) ?_
    with_reducible refine ((toChisel_calls a b _)).mono ?_
    rintro e w3 ⟨rfl, hb⟩
    refine ⟨_, rfl, ?_⟩
    refine hK.out _ _ ⟨(blk_below hHeld.1 hb), (blk_below hHeld.2.1 hb), (below_step hHeld.2.2.1 hb), (Kd.R_below hHeld.2.2.2.1 hb), (Kd.R_below hHeld.2.2.2.2 hb)⟩ (fun hHeld => ?_)
    clear hK K
    refine norm_ (a' := ?_) ?_ ?_
    rotate_left
    · show Act.put _ (some 60) _ = _
      simp only [Act.put, List.setIfInBounds_toArray, List.set_cons_zero, List.set_cons_succ, i64_w, i32_w]
      rfl
    refine one_ (i := 5) (N := some 62) #[true, true, true, true, true, true, false, false, false, false, false] rfl rfl (by kernel_rfl) (by decide) (fun K hK => ?_)
    refine goes_ Tryd.func38 (by kernel_rfl) rfl #[.agg (cellsK .i8 l), .agg #[.int .i16 a, .int .i8 b], .string s] (by rfl) rfl rfl (by simp only [List.map_toArray, List.map_cons, List.map_nil]; rfl) ?_
    with_reducible refine ((implSharp_calls l hl hw a b ha hb' s _ (HG.out.below hHeld.2.2.1))).mono ?_
    rintro e w3 ⟨v, rfl, ho, hb⟩
    refine ⟨_, rfl, ?_⟩
    obtain ⟨AH, cH, rfl, hcH, hrH⟩ := Kd.R_reads ho
    refine hK.out _ _ ⟨(blk_below hHeld.1 hb), (blk_below hHeld.2.1 hb), (below_step hHeld.2.2.1 hb), (Kd.R_below hHeld.2.2.2.1 hb), (Kd.R_below hHeld.2.2.2.2 hb)⟩ (fun hHeld => ?_)
    clear hK K
    refine norm_ (a' := ?_) ?_ ?_
    rotate_left
    · show Act.put _ (some 62) _ = _
      simp only [Act.put, List.setIfInBounds_toArray, List.set_cons_zero, List.set_cons_succ, i64_w, i32_w]
      rfl
    refine pure_ (i := 6) (N := some 56) (v := ?_) (a' := ?_) #[true, true, true, true, true, true, true, false, false, false, false] rfl rfl (by kernel_rfl) (fun _ _ _ h => h) (Or.inl ⟨by rfl, ?_⟩) ?_ ?_
    rotate_left
    · intro w'
      go_simp
      with_reducible rfl
    rotate_left
    · simp only [Act.put, List.setIfInBounds_toArray, List.set_cons_zero, List.set_cons_succ, i64_w, i32_w]
      rfl
    refine pure_ (i := 7) (N := some 63) (v := ?_) (a' := ?_) #[true, true, true, true, true, true, true, true, false, false, false] rfl rfl (by kernel_rfl) (fun _ _ _ h => h) (Or.inl ⟨by rfl, ?_⟩) ?_ ?_
    rotate_left
    · intro w'
      go_simp
      with_reducible rfl
    rotate_left
    · simp only [Act.put, List.setIfInBounds_toArray, List.set_cons_zero, List.set_cons_succ, i64_w, i32_w]
      rfl
    refine pure_ (i := 8) (N := some 64) (v := ?_) (a' := ?_) #[true, true, true, true, true, true, true, true, true, false, false] rfl rfl (by kernel_rfl) (fun _ _ _ h => h) (Or.inl ⟨by rfl, ?_⟩) ?_ ?_
    rotate_left
    · intro w'
      go_simp
      with_reducible rfl
    rotate_left
    · simp only [Act.put, List.setIfInBounds_toArray, List.set_cons_zero, List.set_cons_succ, i64_w, i32_w]
      rfl
    refine pure_ (i := 9) (N := some 13) (v := ?_) (a' := ?_) #[true, true, true, true, true, true, true, true, true, true, false] rfl rfl (by kernel_rfl) (fun _ _ _ h => h) (Or.inl ⟨by rfl, ?_⟩) ?_ ?_
    rotate_left
    · intro w'
      go_simp
      with_reducible rfl
    rotate_left
    · simp only [Act.put, List.setIfInBounds_toArray, List.set_cons_zero, List.set_cons_succ, i64_w, i32_w]
      rfl
    refine pure_ (i := 10) (N := some 14) (v := ?_) (a' := ?_) #[true, true, true, true, true, true, true, true, true, true, true] rfl rfl (by kernel_rfl) (fun _ _ _ h => h) (Or.inl ⟨by rfl, ?_⟩) ?_ ?_
    rotate_left
    · intro w'
      go_simp
      with_reducible rfl
    rotate_left
    · simp only [Act.put, List.setIfInBounds_toArray, List.set_cons_zero, List.set_cons_succ, i64_w, i32_w]
      rfl
    refine done_ (by kernel_rfl) ?_
    rw [← HLS.out] at ho hcH hrH ⊢
    rw [← HN.out] at ho hcH hrH ⊢
    rw [← HY.out]
    replace HB := Aside0.mk hHeld.2.2.1
    replace HOW := Aside0.mk hHeld.2.2.2.1
    replace HOG := Aside0.mk hHeld.2.2.2.2
    have HOH := Aside0.mk ho
    clear hHeld hb ho hcH hrH B0 B1
    go_wp2_with fail
    refine (eq_calls AH AW n cH cW ls HN.out.symm _ (R_sliceI HOH.out).2.2 (R_sliceI HOH.out).2.1 (R_sliceI HOW.out).2.2 (R_sliceI HOW.out).2.1 (by have := HN60.out; omega)).mono ?_
    rintro e w10 ⟨rfl, hb⟩
    replace HB := Aside0.mk (below_step HB.out hb)
    replace HOG := Aside0.mk (Kd.R_below HOG.out hb)
    clear hb HOW HOH
    go_wp2_with fail
    refine (held_calls AG n cG _ (HCG.out.2 HOG.out) HCG.out.1 (by have := HN60.out; omega)).mono ?_
    rintro e w11 ⟨rfl, hb⟩
    replace HB := Aside0.mk (below_step HB.out hb)
    clear hb
    go_wp2_with fail
    go_ret
    exact ⟨rfl, HB.out⟩
  · have hs1 : decide ((s.size : Int) > 1048576) = true := by simp; omega
    have hs2 : decide ((1048576 : Int) < s.size) = true := by simp; omega
    clear hs
    go_wp2
    go_ret
    exact ⟨rfl, HB.out⟩
end Go.Proofs.YthdoeefaibeodaaDoor.Ext
