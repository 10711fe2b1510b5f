/- What is valid: strokes, prices, chisels and sheets, in the program and in the reference. -/
import Derived.Test.YtgfjmamjfkcmbaaArr
import Derived.Test.YtgfjmamjfkcmbaaIdx
namespace Go.Proofs.Ytgfjmamjfkcmbaa.Ext
open Go.RowKit Go.Proofs.YtgfjmamjfkcmbaaW.PrintWords Go.Proofs.YtgfjmamjfkcmbaaW.PrintLast Go.Proofs.YtgfjmamjfkcmbaaW.PrintMore
set_option linter.unusedVariables false
set_option linter.unusedSimpArgs false


theorem bcell' {W w1 : World} (hb : Below W.heap.size W w1) : (∀ b o, b < W.heap.size → w1.cell? ⟨b, o, none⟩ = W.cell? ⟨b, o, none⟩) := fun b o h => hb.cell (p := ⟨b, o, none⟩) h
set_option maxHeartbeats 400000 in
theorem in_calls (a b c : Int) (w : World) :
    Calls Try.prog 99 #[.int .i64 a, .int .i64 b, .int .i64 c] w fun e w' => e = .returned (.bool (inB a b c)) ∧ w = w' := by
  unfold inB
  by_cases h : b ≤ a
  · have h1 : decide (b ≤ a) = true := by simpa using h
    go_enter Try.func99, Try.ntmps99
    go_wp2
    go_ret
    exact ⟨by simp [h], rfl⟩
  · have h1 : decide (b ≤ a) = false := by simpa using h
    go_enter Try.func99, Try.ntmps99
    go_wp2
    go_ret
    exact ⟨by simp [h], rfl⟩

/-- Strokes are valid. -/
def strokesB (l : List Int) : Bool := l.all fun n => inB n 1 30
set_option maxHeartbeats 1000000 in
theorem l05Strokes_calls (g : Nat) (l : List Int) (hl : l.length = 26) (hw : ∀ y ∈ l, -128 ≤ y ∧ y ≤ 127) (w : World) (hb : w.heap[g]? = some (.cells (cellsK .i8 l) 38 (0, 0))) :
    Calls Try.prog 56 #[.pointer (some ⟨g, 0, none⟩)] w fun e w' => e = .returned (.bool (strokesB l)) ∧ w = w' := by
  have HB := Aside0.mk hb
  have HL := Aside0.mk hl
  clear hb hl
  go_enter Try.func56, Try.ntmps56
  go_wp2
  go_loop [3] (fun i => ∃ n : Nat, n ≤ 26 ∧ i = .int .i64 n ∧ Aside0 ((l.take n).all (fun n => inB n 1 30) = true)) (fun i => 26 - (intOf i).toNat)
  case atStart => exact ⟨0, by omega, rfl, ⟨by simp⟩⟩
  case round =>
    obtain ⟨n, hn, rfl, HA⟩ := hrel
    by_cases hlt : n < 26
    · have hltz : (n : Int) < 26 := by omega
      have hc : w.cell? ⟨g, n, none⟩ = some (.int .i8 (rd l n)) := cellsK_cell HB.out n (by have := HL.out; omega)
      have hbd := hw _ (rd_mem' l n (by have := HL.out; omega))
      have HS := Aside0.mk (all_snoc' (fun n => inB n 1 30) l n (by have := HL.out; omega))
      have HF := Aside0.mk (all_take_false (fun n => inB n 1 30) l n (by have := HL.out; omega))
      obtain ⟨hb1, hb2⟩ := hbd
      generalize rd l n = y at hc hb1 hb2 HS HF
      go_wp2_with fail
      refine (in_calls _ _ _ _).mono ?_
      rintro e w' ⟨rfl, rfl⟩
      cases hy : inB y 1 30
      · have HY := Aside0.mk hy
        clear hy
        go_wp2_with fail
        go_ret
        exact ⟨by unfold strokesB; rw [HF.out HY.out]; rfl, rfl⟩
      · have HY := Aside0.mk hy
        clear hy
        go_wp2_with fail
        go_round
        case rel => exact ⟨n + 1, by omega, by go_num, ⟨by rw [HS.out, HA.out, HY.out]; rfl⟩⟩
        case measure => simp [intOf]; omega
    · have hltz : ¬ (n : Int) < 26 := by omega
      obtain rfl : n = 26 := by omega
      go_wp2
      go_ret
      have e : strokesB l = true := by
        have := HA.out
        rwa [List.take_of_length_le (by have := HL.out; omega)] at this
      exact ⟨by rw [e]; rfl, rfl⟩
theorem specValidStrokes_calls (l : List Int) (hl : l.length = 26) (hw : ∀ y ∈ l, -128 ≤ y ∧ y ≤ 127) (w : World) :
    Calls Try.prog 22 #[.agg (cellsK .i8 l)] w fun e w' => e = .returned (.bool (strokesB l)) ∧ Below w.heap.size w w' := by
  go_enter Try.func22, Try.ntmps22
  go_wp2_with fail
  refine (l05Strokes_calls _ l hl hw _ (blk_new w _)).mono ?_
  rintro e w' ⟨rfl, rfl⟩
  go_wp2_with fail
  go_ret
  exact ⟨rfl, below_alloc (Below.refl _ _) _⟩
theorem reads_of_block {k : IntKind} {g : Nat} {t : TypeId} {l : List Int} {w : World} (hl : l.length ≤ 9223372036854775807) (hb : w.heap[g]? = some (.cells (cellsK k l) t (0, 0))) : Kd.C (Kd.int k) w (some ⟨g, 0, none⟩) l.length l := by
  refine Kd.C_of_reads (enc := Value.int k) (d := (0 : Int)) (h1 := fun _ => rfl) ⟨rfl, hl, fun hp => ⟨_, rfl, fun j hj => ?_⟩⟩
  have := cellsK_cell hb j hj
  rw [add_plain]
  rw [this]
  simp [rd]
theorem pred_ValidStrokes (w : World) : Predi8 58 #[] (fun n => !inB (wrap64 n) 1 30) w := by
  intro W x hb
  go_enter Try.func58, Try.ntmps58
  go_wp2_with fail
  refine (within_calls _ _ _ _).mono ?_
  rintro e w' ⟨rfl, rfl⟩
  go_wp2_with fail
  go_ret
  exact ⟨rfl, hb⟩
theorem implValidStrokes_calls (l : List Int) (hl : l.length = 26) (hw : ∀ y ∈ l, -128 ≤ y ∧ y ≤ 127) (w : World) :
    Calls Try.prog 24 #[.agg (cellsK .i8 l)] w fun e w' => e = .returned (.bool (strokesB l)) ∧ Below w.heap.size w w' := by
  have e1 : strokesB l = !(l.any fun n => !inB (wrap64 n) 1 30) := by
    rw [Bool.eq_iff_iff]
    simp only [strokesB, List.all_eq_true, Bool.not_eq_true', List.any_eq_false, Bool.not_eq_false]
    constructor
    · intro h x hx
      have := hw x hx
      have hz : wrap64 x = x := by unfold wrap64; omega
      rw [hz]; simpa using h x hx
    · intro h x hx
      have := hw x hx
      have hz : wrap64 x = x := by unfold wrap64; omega
      have := h x hx
      rw [hz] at this; simpa using this
  go_enter Try.func24, Try.ntmps24
  go_wp2_with fail
  have hb := blk_new w (.cells (cellsK .i8 l) 38)
  have hr := reads_of_block (by omega) hb
  refine (containsFunc_i8_n _ _ _ (enters_of Try.func58 (by kernel_rfl) rfl) _ 26 26 l hl _ (pred_ValidStrokes _) hr).mono ?_
  rintro e w1 ⟨rfl, hb1⟩
  rw [show (l.any fun n => !inB (wrap64 n) 1 30) = !strokesB l by rw [e1]; simp]
  clear e1 hr
  cases hB : strokesB l
  all_goals
    have HBB := Aside0.mk hB
    clear hB
    go_wp2_with fail
    go_ret
    exact ⟨by rw [HBB.out]; rfl, below_step (below_alloc (Below.refl _ _) _) hb1⟩


theorem FnExactValidStrokes_calls (l : List Int) (hl : l.length = 26) (hw : ∀ y ∈ l, (Lit.int .i8 y).wf = true) (w : World) :
    Calls Try.prog 5 #[.agg (cellsK .i8 l)] w fun e w' => e = .returned (.bool true) ∧ Below w.heap.size w w' := by
  have hw' : ∀ y ∈ l, -128 ≤ y ∧ y ≤ 127 := fun y hy => by simpa [Lit.wf, IntKind.min, IntKind.max, IntKind.signed, IntKind.bits] using hw y hy
  have B1 := Aside0.mk (blk_new w (.cells (cellsK .i8 l) 36))
  have HB := Aside0.mk (below_alloc (Below.refl w.heap.size w) (.cells (cellsK .i8 l) 36))
  have hsz : (Try.prog.info? 36).map (·.size) = some (cellsK .i8 l).size := by rw [cellsK_size, hl]; kernel_rfl
  have HSZ := Aside0.mk hsz
  clear hsz
  go_enter Try.func5, Try.ntmps5
  go_wp2_with (first | ((with_reducible refine gate_dst (N := 5) rfl ?_); refine wpList_load_row rfl 36 (.tmp 1) rfl w.heap.size rfl _ _ _ _ B1.out Try.underlying36 rfl HSZ.out ?_) | fail)
  refine (laws_toStrokes_calls l hl _).mono ?_
  rintro e w1 ⟨rfl, hb⟩
  replace B1 := Aside0.mk (blk_below B1.out hb)
  replace HB := Aside0.mk (below_step HB.out hb)
  clear hb
  go_wp2_with fail
  refine (specValidStrokes_calls l hl hw' _).mono ?_
  rintro e w2 ⟨rfl, hb⟩
  replace B1 := Aside0.mk (blk_below B1.out hb)
  replace HB := Aside0.mk (below_step HB.out hb)
  clear hb
  go_wp2_with (first | ((with_reducible refine gate_dst (N := 8) rfl ?_); refine wpList_load_row rfl 36 (.tmp 1) rfl w.heap.size rfl _ _ _ _ B1.out Try.underlying36 rfl HSZ.out ?_) | fail)
  refine (laws_toStrokes_calls l hl _).mono ?_
  rintro e w3 ⟨rfl, hb⟩
  replace B1 := Aside0.mk (blk_below B1.out hb)
  replace HB := Aside0.mk (below_step HB.out hb)
  clear hb
  go_wp2_with fail
  refine (implValidStrokes_calls l hl hw' _).mono ?_
  rintro e w4 ⟨rfl, hb⟩
  replace HB := Aside0.mk (below_step HB.out hb)
  clear hb
  generalize strokesB l = b
  cases b
  · go_wp2
    go_ret
    exact ⟨rfl, HB.out⟩
  · go_wp2
    go_ret
    exact ⟨rfl, HB.out⟩


/-- A chisel is valid. -/
def chiselB (h s : Int) : Bool := inB h 30 1000 && inB s 0 100
set_option maxHeartbeats 400000 in
theorem toChisel_calls (a b : Int) (w : World) :
    Calls Try.prog 17 #[.agg #[.int .i16 a, .int .i8 b]] w fun e w' => e = .returned (.agg #[.int .i16 a, .int .i8 b]) ∧ Below w.heap.size w w' := by
  go_enter Try.func17, Try.ntmps17
  go_wp2
  refine bodyPost_ret (v := .agg #[.int .i16 a, .int .i8 b]) (by simp [results, Try.results17, go_sem]) rfl ⟨rfl, ?_⟩
  exact (((Below.refl _ _).alloc (Nat.le_refl _) _).alloc (by simp) _).alloc (by simp; omega) _
set_option maxHeartbeats 400000 in
theorem l05Chisel_calls (g : Nat) (a b : Int) (w : World) (hb : w.heap[g]? = some (.cells #[.int .i16 a, .int .i8 b] 27 (0, 0))) (ha : -32768 ≤ a ∧ a ≤ 32767) (hbb : -128 ≤ b ∧ b ≤ 127) :
    Calls Try.prog 53 #[.pointer (some ⟨g, 0, none⟩)] w fun e w' => e = .returned (.bool (chiselB a b)) ∧ w = w' := by
  obtain ⟨ha1, ha2⟩ := ha
  obtain ⟨hb1, hb2⟩ := hbb
  have h0 : w.cell? ⟨g, 0, none⟩ = some (.int .i16 a) := (blk_cell hb 0).trans rfl
  have h1 : w.cell? ⟨g, 1, none⟩ = some (.int .i8 b) := (blk_cell hb 1).trans rfl
  clear hb
  unfold chiselB
  cases h : inB a 30 1000
  all_goals
    have H := Aside0.mk h
    clear h
    go_enter Try.func53, Try.ntmps53
    go_wp2_with fail
    refine (in_calls _ _ _ _).mono ?_
    rintro e w' ⟨rfl, rfl⟩
    rw [H.out]
    go_wp2_with fail
  · go_ret
    exact ⟨rfl, rfl⟩
  · refine (in_calls _ _ _ _).mono ?_
    rintro e w' ⟨rfl, rfl⟩
    go_wp2_with fail
    go_ret
    exact ⟨by simp, rfl⟩
theorem specValidChisel_calls (a b : Int) (w : World) (ha : -32768 ≤ a ∧ a ≤ 32767) (hbb : -128 ≤ b ∧ b ≤ 127) :
    Calls Try.prog 16 #[.agg #[.int .i16 a, .int .i8 b]] w fun e w' => e = .returned (.bool (chiselB a b)) ∧ Below w.heap.size w w' := by
  have HB := Aside0.mk (blk_new w (.cells #[.int .i16 a, .int .i8 b] 27))
  go_enter Try.func16, Try.ntmps16
  go_wp2_with fail
  refine (l05Chisel_calls _ a b _ HB.out ha hbb).mono ?_
  rintro e w' ⟨rfl, rfl⟩
  go_wp2_with fail
  go_ret
  exact ⟨rfl, below_alloc (Below.refl _ _) _⟩
theorem implValidChisel_calls (a b : Int) (w : World) (ha : -32768 ≤ a ∧ a ≤ 32767) (hbb : -128 ≤ b ∧ b ≤ 127) :
    Calls Try.prog 18 #[.agg #[.int .i16 a, .int .i8 b]] w fun e w' => e = .returned (.bool (chiselB a b)) ∧ Below w.heap.size w w' := by
  obtain ⟨ha1, ha2⟩ := ha
  obtain ⟨hb1, hb2⟩ := hbb
  unfold chiselB
  cases h : inB a 30 1000
  all_goals
    have H := Aside0.mk h
    clear h
    go_enter Try.func18, Try.ntmps18
    go_wp2_with fail
    refine (within_calls _ _ _ _).mono ?_
    rintro e w' ⟨rfl, rfl⟩
    rw [H.out]
    go_wp2_with fail
  · go_ret
    exact ⟨rfl, below_alloc (Below.refl _ _) _⟩
  · refine (within_calls _ _ _ _).mono ?_
    rintro e w' ⟨rfl, rfl⟩
    go_wp2_with fail
    go_ret
    exact ⟨by simp, below_alloc (Below.refl _ _) _⟩
theorem FnExactValidChisel_calls (a b : Int) (wa : (Lit.int .i16 a).wf = true) (wb : (Lit.int .i8 b).wf = true) (w : World) :
    Calls Try.prog 3 #[.agg #[.int .i16 a, .int .i8 b]] w fun e w' => e = .returned (.bool true) ∧ Below w.heap.size w w' := by
  have ha : -32768 ≤ a ∧ a ≤ 32767 := by simpa [Lit.wf, IntKind.min, IntKind.max, IntKind.signed, IntKind.bits] using wa
  have hb : -128 ≤ b ∧ b ≤ 127 := by simpa [Lit.wf, IntKind.min, IntKind.max, IntKind.signed, IntKind.bits] using wb
  clear wa wb
  have HA := Aside0.mk ha
  have HBB := Aside0.mk hb
  clear ha hb
  have B1 := Aside0.mk (blk_new w (.cells #[.int .i16 a, .int .i8 b] 25))
  have HB := Aside0.mk (below_alloc (Below.refl w.heap.size w) (.cells #[.int .i16 a, .int .i8 b] 25))
  have HSZ : Aside0 ((Try.prog.info? 25).map (·.size) = some (#[.int .i16 a, .int .i8 b] : Array Value).size) := ⟨(by kernel_rfl : (Try.prog.info? 25).map (·.size) = some 2)⟩
  go_enter Try.func3, Try.ntmps3
  go_wp2_with (first | ((with_reducible refine gate_dst (N := 5) rfl ?_); refine wpList_load_row rfl 25 (.tmp 1) rfl w.heap.size rfl _ _ _ _ B1.out Try.underlying25 rfl HSZ.out ?_) | fail)
  refine (toChisel_calls a b _).mono ?_
  rintro e w1 ⟨rfl, hb⟩
  replace B1 := Aside0.mk (blk_below B1.out hb)
  replace HB := Aside0.mk (below_step HB.out hb)
  clear hb
  go_wp2_with fail
  refine (specValidChisel_calls a b _ HA.out HBB.out).mono ?_
  rintro e w2 ⟨rfl, hb⟩
  replace B1 := Aside0.mk (blk_below B1.out hb)
  replace HB := Aside0.mk (below_step HB.out hb)
  clear hb
  go_wp2_with (first | ((with_reducible refine gate_dst (N := 8) rfl ?_); refine wpList_load_row rfl 25 (.tmp 1) rfl w.heap.size rfl _ _ _ _ B1.out Try.underlying25 rfl HSZ.out ?_) | fail)
  refine (toChisel_calls a b _).mono ?_
  rintro e w3 ⟨rfl, hb⟩
  replace B1 := Aside0.mk (blk_below B1.out hb)
  replace HB := Aside0.mk (below_step HB.out hb)
  clear hb
  go_wp2_with fail
  refine (implValidChisel_calls a b _ HA.out HBB.out).mono ?_
  rintro e w4 ⟨rfl, hb⟩
  replace HB := Aside0.mk (below_step HB.out hb)
  clear hb
  generalize chiselB a b = r
  cases r
  · go_wp2
    go_ret
    exact ⟨rfl, HB.out⟩
  · go_wp2
    go_ret
    exact ⟨rfl, HB.out⟩


/-- A sheet is valid. -/
def sheetB (h s : Int) : Bool := inB h 1 400 && inB s 0 5
set_option maxHeartbeats 400000 in
theorem toSheet_calls (a b : Int) (w : World) :
    Calls Try.prog 20 #[.agg #[.int .i16 a, .int .i8 b]] w fun e w' => e = .returned (.agg #[.int .i16 a, .int .i8 b]) ∧ Below w.heap.size w w' := by
  go_enter Try.func20, Try.ntmps20
  go_wp2
  refine bodyPost_ret (v := .agg #[.int .i16 a, .int .i8 b]) (by simp [results, Try.results20, go_sem]) rfl ⟨rfl, ?_⟩
  exact (((Below.refl _ _).alloc (Nat.le_refl _) _).alloc (by simp) _).alloc (by simp; omega) _
set_option maxHeartbeats 400000 in
theorem l06Sheet_calls (g : Nat) (a b : Int) (w : World) (hb : w.heap[g]? = some (.cells #[.int .i16 a, .int .i8 b] 33 (0, 0))) (ha : -32768 ≤ a ∧ a ≤ 32767) (hbb : -128 ≤ b ∧ b ≤ 127) :
    Calls Try.prog 55 #[.pointer (some ⟨g, 0, none⟩)] w fun e w' => e = .returned (.bool (sheetB a b)) ∧ w = w' := by
  obtain ⟨ha1, ha2⟩ := ha
  obtain ⟨hb1, hb2⟩ := hbb
  have h0 : w.cell? ⟨g, 0, none⟩ = some (.int .i16 a) := (blk_cell hb 0).trans rfl
  have h1 : w.cell? ⟨g, 1, none⟩ = some (.int .i8 b) := (blk_cell hb 1).trans rfl
  clear hb
  unfold sheetB
  cases h : inB a 1 400
  all_goals
    have H := Aside0.mk h
    clear h
    go_enter Try.func55, Try.ntmps55
    go_wp2_with fail
    refine (in_calls _ _ _ _).mono ?_
    rintro e w' ⟨rfl, rfl⟩
    rw [H.out]
    go_wp2_with fail
  · go_ret
    exact ⟨rfl, rfl⟩
  · refine (in_calls _ _ _ _).mono ?_
    rintro e w' ⟨rfl, rfl⟩
    go_wp2_with fail
    go_ret
    exact ⟨by simp, rfl⟩
theorem specValidSheet_calls (a b : Int) (w : World) (ha : -32768 ≤ a ∧ a ≤ 32767) (hbb : -128 ≤ b ∧ b ≤ 127) :
    Calls Try.prog 19 #[.agg #[.int .i16 a, .int .i8 b]] w fun e w' => e = .returned (.bool (sheetB a b)) ∧ Below w.heap.size w w' := by
  have HB := Aside0.mk (blk_new w (.cells #[.int .i16 a, .int .i8 b] 33))
  go_enter Try.func19, Try.ntmps19
  go_wp2_with fail
  refine (l06Sheet_calls _ a b _ HB.out ha hbb).mono ?_
  rintro e w' ⟨rfl, rfl⟩
  go_wp2_with fail
  go_ret
  exact ⟨rfl, below_alloc (Below.refl _ _) _⟩
theorem implValidSheet_calls (a b : Int) (w : World) (ha : -32768 ≤ a ∧ a ≤ 32767) (hbb : -128 ≤ b ∧ b ≤ 127) :
    Calls Try.prog 21 #[.agg #[.int .i16 a, .int .i8 b]] w fun e w' => e = .returned (.bool (sheetB a b)) ∧ Below w.heap.size w w' := by
  obtain ⟨ha1, ha2⟩ := ha
  obtain ⟨hb1, hb2⟩ := hbb
  unfold sheetB
  cases h : inB a 1 400
  all_goals
    have H := Aside0.mk h
    clear h
    go_enter Try.func21, Try.ntmps21
    go_wp2_with fail
    refine (within_calls _ _ _ _).mono ?_
    rintro e w' ⟨rfl, rfl⟩
    rw [H.out]
    go_wp2_with fail
  · go_ret
    exact ⟨rfl, below_alloc (Below.refl _ _) _⟩
  · refine (within_calls _ _ _ _).mono ?_
    rintro e w' ⟨rfl, rfl⟩
    go_wp2_with fail
    go_ret
    exact ⟨by simp, below_alloc (Below.refl _ _) _⟩
theorem FnExactValidSheet_calls (a b : Int) (wa : (Lit.int .i16 a).wf = true) (wb : (Lit.int .i8 b).wf = true) (w : World) :
    Calls Try.prog 4 #[.agg #[.int .i16 a, .int .i8 b]] w fun e w' => e = .returned (.bool true) ∧ Below w.heap.size w w' := by
  have ha : -32768 ≤ a ∧ a ≤ 32767 := by simpa [Lit.wf, IntKind.min, IntKind.max, IntKind.signed, IntKind.bits] using wa
  have hb : -128 ≤ b ∧ b ≤ 127 := by simpa [Lit.wf, IntKind.min, IntKind.max, IntKind.signed, IntKind.bits] using wb
  clear wa wb
  have HA := Aside0.mk ha
  have HBB := Aside0.mk hb
  clear ha hb
  have B1 := Aside0.mk (blk_new w (.cells #[.int .i16 a, .int .i8 b] 31))
  have HB := Aside0.mk (below_alloc (Below.refl w.heap.size w) (.cells #[.int .i16 a, .int .i8 b] 31))
  have HSZ : Aside0 ((Try.prog.info? 31).map (·.size) = some (#[.int .i16 a, .int .i8 b] : Array Value).size) := ⟨(by kernel_rfl : (Try.prog.info? 31).map (·.size) = some 2)⟩
  go_enter Try.func4, Try.ntmps4
  go_wp2_with (first | ((with_reducible refine gate_dst (N := 5) rfl ?_); refine wpList_load_row rfl 31 (.tmp 1) rfl w.heap.size rfl _ _ _ _ B1.out Try.underlying31 rfl HSZ.out ?_) | fail)
  refine (toSheet_calls a b _).mono ?_
  rintro e w1 ⟨rfl, hb⟩
  replace B1 := Aside0.mk (blk_below B1.out hb)
  replace HB := Aside0.mk (below_step HB.out hb)
  clear hb
  go_wp2_with fail
  refine (specValidSheet_calls a b _ HA.out HBB.out).mono ?_
  rintro e w2 ⟨rfl, hb⟩
  replace B1 := Aside0.mk (blk_below B1.out hb)
  replace HB := Aside0.mk (below_step HB.out hb)
  clear hb
  go_wp2_with (first | ((with_reducible refine gate_dst (N := 8) rfl ?_); refine wpList_load_row rfl 31 (.tmp 1) rfl w.heap.size rfl _ _ _ _ B1.out Try.underlying31 rfl HSZ.out ?_) | fail)
  refine (toSheet_calls a b _).mono ?_
  rintro e w3 ⟨rfl, hb⟩
  replace B1 := Aside0.mk (blk_below B1.out hb)
  replace HB := Aside0.mk (below_step HB.out hb)
  clear hb
  go_wp2_with fail
  refine (implValidSheet_calls a b _ HA.out HBB.out).mono ?_
  rintro e w4 ⟨rfl, hb⟩
  replace HB := Aside0.mk (below_step HB.out hb)
  clear hb
  generalize sheetB a b = r
  cases r
  · go_wp2
    go_ret
    exact ⟨rfl, HB.out⟩
  · go_wp2
    go_ret
    exact ⟨rfl, HB.out⟩

end Go.Proofs.Ytgfjmamjfkcmbaa.Ext
