/- StrokesText, in the program and in the reference, and its law. -/
import Derived.Test.YthdoeefaibeodaaDoorValid
import Derived.Test.YthdoeefaibeodaaDoorPureDig
namespace Go.Proofs.YthdoeefaibeodaaDoor.Ext
open Go.RowKit Go.Proofs.YthdoeefaibeodaaDoorW.PrintWords Go.Proofs.YthdoeefaibeodaaDoorW.PrintLast Go.Proofs.YthdoeefaibeodaaDoorW.PrintMore
set_option linter.unusedVariables false
set_option linter.unusedSimpArgs false
theorem below_lt' {w : World} {g : Nat} {o : Obj} (h : w.heap[g]? = some o) : g < w.heap.size := (Array.getElem?_eq_some_iff.1 h).1
theorem dec_calls (n : Nat) (hn : n < 1000000) (w : World) : Calls Tryd.prog 93 #[.int .i64 (n : Int)] w fun e w' => e = .returned (.string ⟨(Lib.itoa (n : Int)).toArray⟩) ∧ Below w.heap.size w w' := by
  have h := Pure.decimal_eq 6 n hn (by omega)
  rw [← Lib.itoa_nonneg] at h
  exact (QT.spec_Decimal.calls 7 (n : Int) _ w h).mono fun e w' h => ⟨h.1, by have := h.2; first | exact this | exact this.below⟩
theorem joined8_calls (g : Nat) (t : TypeId) (l : List Int) (n c : Nat) (hn : l.length = n) (hc : n ≤ c) (hl : l.length ≤ 1000) (hb : ∀ x ∈ l, -32768 ≤ x ∧ x ≤ 32767) (w : World) (hG : GlobT w) (hr : Kd.C (Kd.int .i8) w (some ⟨g, 0, none⟩) l.length l) :
    Calls Tryd.prog 54 #[.slice (some ⟨g, 0, none⟩) n c] w fun e w' => e = .returned (.string (Pure.txtOf l)) ∧ Below w.heap.size w w' := by
  subst hn
  exact (QT.impl_joined_int8.calls (l.length + 1) (some ⟨g, 0, none⟩) c l _ w hr hc hG (Pure.joined8_eq l hl hb (by omega))).mono fun e w' h => ⟨h.1, by have := h.2; first | exact this | exact this.below⟩
theorem append_txt (l : List Int) (n : Nat) (h : n < l.length) (h0 : 0 < n) : Pure.txtOf (l.take n) ++ (⟨#[32]⟩ : ByteArray) ++ (⟨(Lib.itoa (rd l n)).toArray⟩ : ByteArray) = Pure.txtOf (l.take (n + 1)) := by
  apply ba_ext
  unfold Pure.txtOf
  rw [Pure.numsText_take l n h, if_neg (by omega)]
  simp
theorem append_txt0 (l : List Int) (h : 0 < l.length) : Pure.txtOf (l.take 0) ++ (⟨(Lib.itoa (rd l 0)).toArray⟩ : ByteArray) = Pure.txtOf (l.take 1) := by
  apply ba_ext
  have := Pure.numsText_take l 0 h
  unfold Pure.txtOf
  rw [this, if_pos rfl]
  simp
theorem txtOf_size (l : List Int) (hb : ∀ x ∈ l, -32768 ≤ x ∧ x ≤ 32767) : (Pure.txtOf l).size ≤ 22 * l.length := by
  have := Pure.numsText_len l (fun x hx => by have := hb x hx; omega)
  unfold Pure.txtOf
  simpa [ByteArray.size] using this
set_option maxHeartbeats 1000000 in
set_option maxRecDepth 10000 in
theorem l05Text_calls (g : Nat) (l : List Int) (hl : l.length = 26) (hw : ∀ y ∈ l, 0 ≤ y ∧ y ≤ 127) (w : World) (hb : w.heap[g]? = some (.cells (cellsK .i8 l) 25 (0, 0))) :
    Calls Tryd.prog 52 #[.pointer (some ⟨g, 0, none⟩)] w fun e w' => e = .returned (.string (Pure.txtOf l)) ∧ Below w.heap.size w w' := by
  have B1 := Aside0.mk hb
  have HL := Aside0.mk hl
  have HT0 : Pure.txtOf (l.take 0) = ⟨#[]⟩ := rfl
  clear hb hl
  go_enter Tryd.func52, Tryd.ntmps52
  go_wp2
  go_loopw [3, 4] (fun v i wr => ∃ n : Nat, n ≤ 26 ∧ i = .int .i64 n ∧ v = .string (Pure.txtOf (l.take n)) ∧ Aside0 (Below w.heap.size w wr)) (fun v i _ => 26 - (intOf i).toNat)
  case atStart => exact ⟨0, by omega, rfl, rfl, ⟨Below.refl _ _⟩⟩
  case round =>
    obtain ⟨n, hn, rfl, rfl, HB⟩ := hrel
    clear HT0
    by_cases hlt : n < 26
    · have hltz : (n : Int) < 26 := by omega
      have hnl : n < l.length := by rw [HL.out]; exact hlt
      have hc : wr.cell? ⟨g, n, none⟩ = some (.int .i8 (rd l n)) := (HB.out.cell (below_lt' B1.out)).trans (cellsK_cell B1.out n hnl)
      have hyr := hw (rd l n) (rd_mem' l n hnl)
      obtain ⟨y, hy⟩ : ∃ y : Nat, (y : Int) = rd l n := ⟨(rd l n).toNat, by omega⟩
      rw [← hy] at hc hyr
      have hyw : wrap64 (y : Int) = y := by unfold wrap64; omega
      have hsz := txtOf_size (l.take n) (fun x hx => by have := hw x (List.mem_of_mem_take hx); omega)
      have hsz2 : (Pure.txtOf (l.take n)).size ≤ 600 := by rw [List.length_take] at hsz; omega
      clear hsz
      have hA : 0 < n → Pure.txtOf (l.take n) ++ (⟨#[32]⟩ : ByteArray) ++ (⟨(Lib.itoa (y : Int)).toArray⟩ : ByteArray) = Pure.txtOf (l.take (n + 1)) := fun h0 => by rw [hy]; exact append_txt l n hnl h0
      have hA0 : n = 0 → Pure.txtOf (l.take n) ++ (⟨(Lib.itoa (y : Int)).toArray⟩ : ByteArray) = Pure.txtOf (l.take (n + 1)) := fun h0 => by subst h0; rw [hy]; exact append_txt0 l hnl
      have HA := Aside0.mk hA
      have HA0 := Aside0.mk hA0
      have HY := Aside0.mk hyr
      have hil : (⟨(Lib.itoa (y : Int)).toArray⟩ : ByteArray).size ≤ 21 := by
        have := Lib.itoa_length_le (y : Int) (by omega) (by omega)
        simpa [ByteArray.size] using this
      clear hA hA0 hy hyr
      by_cases h0 : n = 0
      · have hz : decide ((n : Int) > 0) = false := by simp; omega
        have hz2 : decide ((0 : Int) < n) = false := by simp; omega
        have hz3 : decide (0 < n) = false := by simp; omega
        have hz4 : (0 < n) = False := by simp; omega
        have HN0 := Aside0.mk h0
        clear h0
        generalize Pure.txtOf (l.take n) = X at *
        go_wp2_with fail
        refine (dec_calls y (by have := HY.out; omega) _).mono ?_
        rintro e w2 ⟨rfl, hb⟩
        replace HB := Aside0.mk (below_step HB.out hb)
        clear hb
        generalize (⟨(Lib.itoa (y : Int)).toArray⟩ : ByteArray) = Y at *
        go_wp2
        go_roundw
        case rel => exact ⟨n + 1, by omega, by go_num, by rw [HA0.out HN0.out], ⟨HB.out⟩⟩
        case measure => simp [intOf]; omega
      · have hz : decide ((n : Int) > 0) = true := by simp; omega
        have hz2 : decide ((0 : Int) < n) = true := by simp; omega
        have hz3 : decide (0 < n) = true := by simp; omega
        have hz4 : 0 < n := by omega
        have HN0 := Aside0.mk (show 0 < n by omega)
        clear h0
        generalize Pure.txtOf (l.take n) = X at *
        have hX : (X ++ (⟨#[32]⟩ : ByteArray)).size ≤ 601 := by
          rw [ByteArray.size_append]
          have : (⟨#[32]⟩ : ByteArray).size = 1 := rfl
          omega
        have h1 : (⟨#[32]⟩ : ByteArray).size = 1 := rfl
        go_wp2_with fail
        refine (dec_calls y (by have := HY.out; omega) _).mono ?_
        rintro e w2 ⟨rfl, hb⟩
        replace HB := Aside0.mk (below_step HB.out hb)
        clear hb
        generalize (⟨(Lib.itoa (y : Int)).toArray⟩ : ByteArray) = Y at *
        go_wp2
        go_roundw
        case rel => exact ⟨n + 1, by omega, by go_num, by rw [HA.out HN0.out], ⟨HB.out⟩⟩
        case measure => simp [intOf]; omega
    · have hltz : ¬ (n : Int) < 26 := by omega
      obtain rfl : n = 26 := by omega
      go_wp2
      go_ret
      exact ⟨by rw [List.take_of_length_le (by rw [HL.out]; exact Nat.le_refl _)]; rfl, HB.out⟩
/-- What StrokesText answers. -/
def stC (l : List Int) : ByteArray := if strokesB l then Pure.txtOf l else ⟨#[]⟩
theorem stC_f {l : List Int} (h : strokesB l = false) : stC l = ⟨#[]⟩ := by unfold stC; rw [h]; rfl
theorem stC_t {l : List Int} (h : strokesB l = true) : stC l = Pure.txtOf l := by unfold stC; rw [h]; rfl
theorem strokesB_in {l : List Int} (h : strokesB l = true) : ∀ y ∈ l, 1 ≤ y ∧ y ≤ 30 := by
  intro y hy
  have := List.all_eq_true.1 h y hy
  unfold inB at this
  simpa using this
theorem specStrokesText_calls (l : List Int) (hl : l.length = 26) (hw : ∀ y ∈ l, -128 ≤ y ∧ y ≤ 127) (w : World) :
    Calls Tryd.prog 15 #[.agg (cellsK .i8 l)] w fun e w' => e = .returned (.string (stC l)) ∧ Below w.heap.size w w' := by
  have B1 := Aside0.mk (blk_new w (.cells (cellsK .i8 l) 25))
  have HB := Aside0.mk (below_alloc (Below.refl w.heap.size w) (.cells (cellsK .i8 l) 25))
  cases hsb : strokesB l
  all_goals
    have HSB := Aside0.mk hsb
    clear hsb
    go_enter Tryd.func15, Tryd.ntmps15
    go_wp2_with fail
    refine (l05Strokes_calls _ l hl hw _ B1.out).mono ?_
    rintro e w' ⟨rfl, rfl⟩
    rw [HSB.out]
    go_wp2_with fail
  · go_ret
    exact ⟨by rw [stC_f HSB.out]; rfl, HB.out⟩
  · refine (l05Text_calls _ l hl (fun y hy => by have := strokesB_in HSB.out y hy; omega) _ B1.out).mono ?_
    rintro e w2 ⟨rfl, hb⟩
    replace HB := Aside0.mk (below_step HB.out hb)
    clear hb
    go_wp2_with fail
    go_ret
    exact ⟨by rw [stC_t HSB.out]; rfl, HB.out⟩
theorem implStrokesText_calls (l : List Int) (hl : l.length = 26) (hw : ∀ y ∈ l, -128 ≤ y ∧ y ≤ 127) (w : World) (hG : GlobT w) :
    Calls Tryd.prog 17 #[.agg (cellsK .i8 l)] w fun e w' => e = .returned (.string (stC l)) ∧ Below w.heap.size w w' := by
  have B1 := Aside0.mk (blk_new w (.cells (cellsK .i8 l) 25))
  have HB := Aside0.mk (below_alloc (Below.refl w.heap.size w) (.cells (cellsK .i8 l) 25))
  have hsz : (Tryd.prog.info? 25).map (·.size) = some (cellsK .i8 l).size := by rw [cellsK_size, hl]; kernel_rfl
  have HSZ := Aside0.mk hsz
  have HG := Aside0.mk hG
  clear hsz hG
  go_enter Tryd.func17, Tryd.ntmps17
  go_wp2_with (first | ((with_reducible refine gate_dst (N := 3) rfl ?_); refine wpList_load_row rfl 25 (.tmp 1) rfl w.heap.size rfl _ _ _ _ B1.out Tryd.underlying25 rfl HSZ.out ?_) | fail)
  refine (implValidStrokes_calls l hl hw _).mono ?_
  rintro e w1 ⟨rfl, hb⟩
  replace B1 := Aside0.mk (blk_below B1.out hb)
  replace HB := Aside0.mk (below_step HB.out hb)
  clear hb
  cases hsb : strokesB l
  · have HSB := Aside0.mk hsb
    clear hsb
    go_wp2_with fail
    go_ret
    exact ⟨by rw [stC_f HSB.out]; rfl, HB.out⟩
  · have HSB := Aside0.mk hsb
    clear hsb
    go_wp2_with fail
    refine (joined8_calls _ 22 l 26 26 hl (by omega) (by omega) (fun x hx => by have := hw x hx; omega) _ (HG.out.below HB.out) (reads_of_block (by omega) B1.out)).mono ?_
    rintro e w2 ⟨rfl, hb⟩
    replace HB := Aside0.mk (below_step HB.out hb)
    clear hb
    go_wp2_with fail
    go_ret
    exact ⟨by rw [stC_t HSB.out]; rfl, HB.out⟩
theorem FnExactStrokesText_calls (l : List Int) (hl : l.length = 26) (hwf : ∀ y ∈ l, (Lit.int .i8 y).wf = true) (w : World) (hG : GlobT w) :
    Calls Tryd.prog 3 #[.agg (cellsK .i8 l)] w fun e w' => e = .returned (.bool true) ∧ Below w.heap.size w w' := by
  have hw : ∀ y ∈ l, -128 ≤ y ∧ y ≤ 127 := fun y hy => by simpa [Lit.wf, IntKind.min, IntKind.max, IntKind.signed, IntKind.bits] using hwf y hy
  have B1 := Aside0.mk (blk_new w (.cells (cellsK .i8 l) 23))
  have HB := Aside0.mk (below_alloc (Below.refl w.heap.size w) (.cells (cellsK .i8 l) 23))
  have hsz : (Tryd.prog.info? 23).map (·.size) = some (cellsK .i8 l).size := by rw [cellsK_size, hl]; kernel_rfl
  have HSZ := Aside0.mk hsz
  have HG := Aside0.mk hG
  clear hsz hG hwf
  go_enter Tryd.func3, Tryd.ntmps3
  go_wp2_with (first | ((with_reducible refine gate_dst (N := 5) rfl ?_); refine wpList_load_row rfl 23 (.tmp 1) rfl w.heap.size rfl _ _ _ _ B1.out Tryd.underlying23 rfl HSZ.out ?_) | fail)
  refine (laws_toStrokes_calls l hl _).mono ?_
  rintro e w1 ⟨rfl, hb⟩
  replace B1 := Aside0.mk (blk_below B1.out hb)
  replace HB := Aside0.mk (below_step HB.out hb)
  clear hb
  go_wp2_with fail
  refine (specStrokesText_calls l hl hw _).mono ?_
  rintro e w2 ⟨rfl, hb⟩
  replace B1 := Aside0.mk (blk_below B1.out hb)
  replace HB := Aside0.mk (below_step HB.out hb)
  clear hb
  go_wp2_with (first | ((with_reducible refine gate_dst (N := 8) rfl ?_); refine wpList_load_row rfl 23 (.tmp 1) rfl w.heap.size rfl _ _ _ _ B1.out Tryd.underlying23 rfl HSZ.out ?_) | fail)
  refine (laws_toStrokes_calls l hl _).mono ?_
  rintro e w3 ⟨rfl, hb⟩
  replace B1 := Aside0.mk (blk_below B1.out hb)
  replace HB := Aside0.mk (below_step HB.out hb)
  clear hb
  go_wp2_with fail
  refine (implStrokesText_calls l hl hw _ (HG.out.below HB.out)).mono ?_
  rintro e w4 ⟨rfl, hb⟩
  replace HB := Aside0.mk (below_step HB.out hb)
  clear hb
  generalize stC l = X
  go_wp2
  go_ret
  exact ⟨rfl, HB.out⟩
end Go.Proofs.YthdoeefaibeodaaDoor.Ext
