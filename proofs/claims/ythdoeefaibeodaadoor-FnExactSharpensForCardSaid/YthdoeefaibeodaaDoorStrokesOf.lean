/- StrokesOf, in the program and in the reference, and its law. -/
import Derived.Test.YthdoeefaibeodaaDoorList
import Derived.Test.YthdoeefaibeodaaDoorPureSum
import Derived.Test.YthdoeefaibeodaaDoorQ1
import Derived.Test.YthdoeefaibeodaaDoorQ4
namespace Go.Proofs.YthdoeefaibeodaaDoor.Ext
open Go.RowKit Go.Proofs.YthdoeefaibeodaaDoor.Q Go.Proofs.YthdoeefaibeodaaDoor.Txt Go.Proofs.YthdoeefaibeodaaDoorW.PrintWords Go.Proofs.YthdoeefaibeodaaDoorW.PrintLast Go.Proofs.YthdoeefaibeodaaDoorW.PrintMore
set_option linter.unusedVariables false
set_option linter.unusedSimpArgs false
theorem wf8 {l : List Int} (h : ∀ y ∈ l, (Lit.int .i8 y).wf = true) : ∀ y ∈ l, -128 ≤ y ∧ y ≤ 127 := fun y hy => by simpa [Lit.wf, IntKind.min, IntKind.max, IntKind.signed, IntKind.bits] using h y hy
theorem info_Strokes : (Tryd.prog.info? 25).map (·.size) = some 26 := by kernel_rfl
theorem txt_letters {t : List UInt8} (h : txt t = true) : ∀ b ∈ Pure.letters t, 65 ≤ b.toNat ∧ b.toNat ≤ 90 := by
  intro b hb
  unfold Pure.letters at hb
  rw [List.mem_filter] at hb
  unfold txt at h
  simp only [Bool.and_eq_true, List.all_eq_true] at h
  have := h.1.2.1 b hb.1
  unfold okB at this
  simp only [Bool.or_eq_true, Bool.and_eq_true, decide_eq_true_eq, beq_iff_eq] at this
  rcases this with h1 | h1
  · exact h1
  · simp [h1] at hb
theorem txt60 {s : ByteArray} (h : txt s.data.toList = true) : s.size ≤ 60 := by
  unfold txt at h
  simp only [Bool.and_eq_true, decide_eq_true_eq] at h
  have := data_length s
  omega
theorem strokes60 (l : List Int) {s : ByteArray} (h : s.size ≤ 60) : (strokesOf l (Pure.letters s.data.toList)).length ≤ 60 := by
  rw [strokesOf_len]
  have := Pure.letters_le s.data.toList
  rw [data_length] at this
  omega
/-- A contract of the print, at a value that is known. -/
theorem text_calls (s : ByteArray) (hs : s.size ≤ 1048576) (w : World) : Calls Tryd.prog 65 #[.string s] w fun e w' => e = .returned (.bool (txt s.data.toList)) ∧ Below w.heap.size w w' :=
  (spec_l01Text.calls (s.size + 1) s _ w (Pure.text_eq s (by omega) (by omega))).mono fun e w' h => ⟨h.1, by have := h.2; first | exact this | exact this.below⟩
theorem vtext_calls (s : ByteArray) (w : World) (hG : GlobM w) : Calls Tryd.prog 68 #[.string s] w fun e w' => e = .returned (.bool (txt s.data.toList)) ∧ Below w.heap.size w w' :=
  (impl_ValidText.calls 100 s _ w hG (Pure.valid_eq s (by omega))).mono fun e w' h => ⟨h.1, by have := h.2; first | exact this | exact this.below⟩
theorem sum_calls (A : Option Addr) (c : Nat) (l : List Int) (w : World) (hr : Kd.C (Kd.int .i64) w A l.length l) (hc : l.length ≤ c) (hl : l.length ≤ 1000) : Calls Tryd.prog 66 #[.slice A l.length c] w fun e w' => e = .returned (.int .i64 (Pure.wsum 0 l)) ∧ Below w.heap.size w w' :=
  (spec_l05Sum.calls (l.length + 1) A c l _ w hr hc (Pure.specSum_eq l (by omega) (by omega))).mono fun e w' h => ⟨h.1, by have := h.2; first | exact this | exact this.below⟩
theorem total_calls (A : Option Addr) (c : Nat) (l : List Int) (w : World) (hr : Kd.C (Kd.int .i64) w A l.length l) (hc : l.length ≤ c) (hl : l.length ≤ 1000) : Calls Tryd.prog 69 #[.slice A l.length c] w fun e w' => e = .returned (.int .i64 (Pure.wsum 0 l)) ∧ Below w.heap.size w w' :=
  (impl_total.calls (l.length + 1) A c l _ w hr hc (Pure.total_eq l (by omega) (by omega))).mono fun e w' h => ⟨h.1, by have := h.2; first | exact this | exact this.below⟩
/-- What StrokesOf answers. -/
def soC (l : List Int) (s : ByteArray) : Int × Int := if strokesB l && txt s.data.toList then (Pure.wsum 0 (strokesOf l (Pure.letters s.data.toList)), 0) else (0, 1)
theorem soC_f {l : List Int} {s : ByteArray} (h : strokesB l = false) : soC l s = (0, 1) := by unfold soC; rw [h]; rfl
theorem soC_tf {l : List Int} {s : ByteArray} (h : txt s.data.toList = false) : soC l s = (0, 1) := by unfold soC; rw [h, Bool.and_false]; rfl
theorem soC_tt {l : List Int} {s : ByteArray} (h : strokesB l = true) (h2 : txt s.data.toList = true) : soC l s = (Pure.wsum 0 (strokesOf l (Pure.letters s.data.toList)), 0) := by unfold soC; rw [h, h2]; rfl
set_option maxHeartbeats 1000000 in
theorem specStrokesOf_calls (l : List Int) (hl : l.length = 26) (hw : ∀ y ∈ l, -128 ≤ y ∧ y ≤ 127) (s : ByteArray) (hs : s.size ≤ 1048576) (w : World) :
    Calls Tryd.prog 27 #[.agg (cellsK .i8 l), .string s] w fun e w' => e = .returned (.tuple #[.int .i64 (soC l s).1, .int .i64 (soC l s).2]) ∧ Below w.heap.size w w' := by
  have B1 := Aside0.mk (blk_new w (.cells (cellsK .i8 l) 25))
  have HB := Aside0.mk (below_alloc (Below.refl w.heap.size w) (.cells (cellsK .i8 l) 25))
  have HS := Aside0.mk hs
  clear hs
  go_enter Tryd.func27, Tryd.ntmps27
  cases hsb : strokesB l
  · have HSB := Aside0.mk hsb
    clear hsb
    go_wp2_with fail
    refine (l05Strokes_calls _ l hl hw _ B1.out).mono ?_
    rintro e w' ⟨rfl, rfl⟩
    rw [HSB.out]
    go_wp2_with fail
    go_ret2
    exact ⟨by rw [soC_f HSB.out]; rfl, HB.out⟩
  · have HSB := Aside0.mk hsb
    clear hsb
    go_wp2_with fail
    refine (l05Strokes_calls _ l hl hw _ B1.out).mono ?_
    rintro e w' ⟨rfl, rfl⟩
    rw [HSB.out]
    go_wp2_with fail
    refine (text_calls s HS.out _).mono ?_
    rintro e w2 ⟨rfl, hb⟩
    replace B1 := Aside0.mk (blk_below B1.out hb)
    replace HB := Aside0.mk (below_step HB.out hb)
    clear hb
    cases htx : txt s.data.toList
    · have HTx := Aside0.mk htx
      clear htx
      go_wp2_with fail
      go_ret2
      exact ⟨by rw [soC_tf HTx.out]; rfl, HB.out⟩
    · have HTx := Aside0.mk htx
      clear htx
      go_wp2_with fail
      refine (l05List_calls _ l hl hw s (txt60 HTx.out) (txt_letters HTx.out) _ B1.out).mono ?_
      rintro e w3 ⟨v, rfl, ho, hb⟩
      have HO := Aside0.mk ho
      replace HB := Aside0.mk (below_step HB.out hb)
      clear ho hb
      obtain ⟨A, c, rfl, hc, hr⟩ := Kd.R_reads HO.out
      have HR := Aside0.mk hr
      have HC := Aside0.mk hc
      clear hr hc
      go_wp2_with fail
      refine (sum_calls A c _ _ HR.out HC.out (by have := strokes60 l (txt60 HTx.out); omega)).mono ?_
      rintro e w4 ⟨rfl, hb⟩
      replace HB := Aside0.mk (below_step HB.out hb)
      clear hb
      go_wp2_with fail
      go_ret2
      exact ⟨by rw [soC_tt HSB.out HTx.out]; rfl, HB.out⟩
set_option maxHeartbeats 1000000 in
theorem implStrokesOf_calls (l : List Int) (hl : l.length = 26) (hw : ∀ y ∈ l, -128 ≤ y ∧ y ≤ 127) (s : ByteArray) (w : World) (hG : GlobM w) :
    Calls Tryd.prog 28 #[.agg (cellsK .i8 l), .string s] w fun e w' => e = .returned (.tuple #[.int .i64 (soC l s).1, .int .i64 (soC l s).2]) ∧ Below w.heap.size w w' := by
  have B1 := Aside0.mk (blk_new w (.cells (cellsK .i8 l) 25))
  have HB := Aside0.mk (below_alloc (Below.refl w.heap.size w) (.cells (cellsK .i8 l) 25))
  have hsz : (Tryd.prog.info? 25).map (·.size) = some (cellsK .i8 l).size := by rw [cellsK_size, hl]; exact info_Strokes
  have HSZ := Aside0.mk hsz
  have HG := Aside0.mk hG
  clear hsz hG
  go_enter Tryd.func28, Tryd.ntmps28
  go_wp2_with (first | ((with_reducible refine gate_dst (N := 6) rfl ?_); refine wpList_load_row rfl 25 (.tmp 2) rfl w.heap.size rfl _ _ _ _ B1.out Tryd.underlying25 rfl HSZ.out ?_) | fail)
  refine (implValidStrokes_calls l hl hw _).mono ?_
  rintro e w1 ⟨rfl, hb⟩
  replace B1 := Aside0.mk (blk_below B1.out hb)
  replace HB := Aside0.mk (below_step HB.out hb)
  clear hb
  cases hsb : strokesB l
  · have HSB := Aside0.mk hsb
    clear hsb
    go_wp2_with fail
    go_ret2
    exact ⟨by rw [soC_f HSB.out]; rfl, HB.out⟩
  · have HSB := Aside0.mk hsb
    clear hsb
    go_wp2_with fail
    refine (vtext_calls s _ (HG.out.below HB.out)).mono ?_
    rintro e w2 ⟨rfl, hb⟩
    replace B1 := Aside0.mk (blk_below B1.out hb)
    replace HB := Aside0.mk (below_step HB.out hb)
    clear hb
    cases htx : txt s.data.toList
    · have HTx := Aside0.mk htx
      clear htx
      go_wp2_with fail
      go_ret2
      exact ⟨by rw [soC_tf HTx.out]; rfl, HB.out⟩
    · have HTx := Aside0.mk htx
      clear htx
      go_wp2_with (first | ((with_reducible refine gate_dst (N := 14) rfl ?_); refine wpList_load_row rfl 25 (.tmp 2) rfl w.heap.size rfl _ _ _ _ B1.out Tryd.underlying25 rfl HSZ.out ?_) | fail)
      refine (each_calls l hl hw s (txt60 HTx.out) (txt_letters HTx.out) _ (HG.out.below HB.out)).mono ?_
      rintro e w3 ⟨v, rfl, ho, hb⟩
      have HO := Aside0.mk ho
      replace HB := Aside0.mk (below_step HB.out hb)
      clear ho hb
      obtain ⟨A, c, rfl, hc, hr⟩ := Kd.R_reads HO.out
      have HR := Aside0.mk hr
      have HC := Aside0.mk hc
      clear hr hc
      go_wp2_with fail
      refine (total_calls A c _ _ HR.out HC.out (by have := strokes60 l (txt60 HTx.out); omega)).mono ?_
      rintro e w4 ⟨rfl, hb⟩
      replace HB := Aside0.mk (below_step HB.out hb)
      clear hb
      go_wp2_with fail
      go_ret2
      exact ⟨by rw [soC_tt HSB.out HTx.out]; rfl, HB.out⟩
set_option maxHeartbeats 1000000 in
theorem FnExactStrokesOf_calls (l : List Int) (hl : l.length = 26) (hwf : ∀ y ∈ l, (Lit.int .i8 y).wf = true) (s : ByteArray) (w : World) (hG : GlobM w) :
    Calls Tryd.prog 7 #[.agg (cellsK .i8 l), .string s] w fun e w' => e = .returned (.bool true) ∧ Below w.heap.size w w' := by
  have hw := wf8 hwf
  have B1 := Aside0.mk (blk_new w (.cells (cellsK .i8 l) 23))
  have HB := Aside0.mk (below_alloc (Below.refl w.heap.size w) (.cells (cellsK .i8 l) 23))
  have hsz : (Tryd.prog.info? 23).map (·.size) = some (cellsK .i8 l).size := by rw [cellsK_size, hl]; kernel_rfl
  have HSZ := Aside0.mk hsz
  have HG := Aside0.mk hG
  clear hsz hG hwf
  go_enter Tryd.func7, Tryd.ntmps7
  by_cases hs : s.size ≤ 1048576
  · have hs1 : decide ((s.size : Int) > 1048576) = false := by simp; omega
    have hs2 : decide ((1048576 : Int) < s.size) = false := by simp; omega
    have HS := Aside0.mk hs
    clear hs
    go_wp2_with (first | ((with_reducible refine gate_dst (N := 13) rfl ?_); refine wpList_load_row rfl 23 (.tmp 2) rfl w.heap.size rfl _ _ _ _ B1.out Tryd.underlying23 rfl HSZ.out ?_) | fail)
    refine (laws_toStrokes_calls l hl _).mono ?_
    rintro e w1 ⟨rfl, hb⟩
    replace B1 := Aside0.mk (blk_below B1.out hb)
    replace HB := Aside0.mk (below_step HB.out hb)
    clear hb
    go_wp2_with fail
    refine (specStrokesOf_calls l hl hw s HS.out _).mono ?_
    rintro e w2 ⟨rfl, hb⟩
    replace B1 := Aside0.mk (blk_below B1.out hb)
    replace HB := Aside0.mk (below_step HB.out hb)
    clear hb
    go_wp2_with (first | ((with_reducible refine gate_dst (N := 20) rfl ?_); refine wpList_load_row rfl 23 (.tmp 2) rfl w.heap.size rfl _ _ _ _ B1.out Tryd.underlying23 rfl HSZ.out ?_) | fail)
    refine (laws_toStrokes_calls l hl _).mono ?_
    rintro e w3 ⟨rfl, hb⟩
    replace B1 := Aside0.mk (blk_below B1.out hb)
    replace HB := Aside0.mk (below_step HB.out hb)
    clear hb
    go_wp2_with fail
    refine (implStrokesOf_calls l hl hw s _ (HG.out.below HB.out)).mono ?_
    rintro e w4 ⟨rfl, hb⟩
    replace HB := Aside0.mk (below_step HB.out hb)
    clear hb
    generalize (soC l s).1 = x
    generalize (soC l s).2 = y
    go_wp2
    go_ret
    exact ⟨rfl, HB.out⟩
  · have hs1 : decide ((s.size : Int) > 1048576) = true := by simp; omega
    have hs2 : decide ((1048576 : Int) < s.size) = true := by simp; omega
    clear hs
    go_wp2
    go_ret
    exact ⟨rfl, HB.out⟩
end Go.Proofs.YthdoeefaibeodaaDoor.Ext
