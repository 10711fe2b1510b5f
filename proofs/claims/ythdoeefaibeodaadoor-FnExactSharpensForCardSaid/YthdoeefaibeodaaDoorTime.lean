/- TimeFor, in the program and in the reference, and its law. -/
import Derived.Test.YthdoeefaibeodaaDoorStrokesOf
import Derived.Test.YthdoeefaibeodaaDoorReg
import Derived.Test.YthdoeefaibeodaaDoorQ8
namespace Go.Proofs.YthdoeefaibeodaaDoor.Ext
open Go.RowKit Go.Proofs.YthdoeefaibeodaaDoor.Q Go.Proofs.YthdoeefaibeodaaDoor.Txt Go.Proofs.YthdoeefaibeodaaDoorW.PrintWords Go.Proofs.YthdoeefaibeodaaDoorW.PrintLast Go.Proofs.YthdoeefaibeodaaDoorW.PrintMore
set_option linter.unusedVariables false
set_option linter.unusedSimpArgs false
/-- Strokes, a chisel and a text are valid. -/
def okC (l : List Int) (a b : Int) (s : ByteArray) : Bool := strokesB l && (chiselB a b && txt s.data.toList)
theorem okC_1 {l : List Int} {a b : Int} {s : ByteArray} (h : okC l a b s = true) : strokesB l = true := by unfold okC at h; simp only [Bool.and_eq_true] at h; exact h.1
theorem okC_3 {l : List Int} {a b : Int} {s : ByteArray} (h : okC l a b s = true) : txt s.data.toList = true := by unfold okC at h; simp only [Bool.and_eq_true] at h; exact h.2.2
def codeOf : Bool → Int
  | true => 0
  | false => 1
theorem cellOne {w : World} {g : Nat} {a b : Int} {t : TypeId} (h : w.heap[g]? = some (.cells #[.int .i16 a, .int .i8 b] t (0, 0))) : w.cell? ⟨g, 1, none⟩ = some (.int .i8 b) := (blk_cell h 1).trans rfl
set_option maxHeartbeats 1000000 in
theorem asked_calls (g0 g1 : Nat) (l : List Int) (hl : l.length = 26) (hw : ∀ y ∈ l, -128 ≤ y ∧ y ≤ 127) (a b : Int) (ha : -32768 ≤ a ∧ a ≤ 32767) (hb' : -128 ≤ b ∧ b ≤ 127) (s : ByteArray) (hs : s.size ≤ 1048576) (w : World)
    (h0 : w.heap[g0]? = some (.cells (cellsK .i8 l) 25 (0, 0))) (h1 : w.heap[g1]? = some (.cells #[.int .i16 a, .int .i8 b] 54 (0, 0))) :
    Calls Tryd.prog 74 #[.pointer (some ⟨g0, 0, none⟩), .pointer (some ⟨g1, 0, none⟩), .string s] w fun e w' => e = .returned (.int .i64 (codeOf (okC l a b s))) ∧ Below w.heap.size w w' := by
  have B0 := Aside0.mk h0
  have B1 := Aside0.mk h1
  have HS := Aside0.mk hs
  clear h0 h1 hs
  go_enter Tryd.func74, Tryd.ntmps74
  go_wp2_with fail
  refine (l05Strokes_calls g0 l hl hw _ B0.out).mono ?_
  rintro e w' ⟨rfl, rfl⟩
  cases h : strokesB l
  · have H := Aside0.mk h
    clear h
    go_wp2_with fail
    go_ret
    exact ⟨by unfold okC; rw [H.out]; rfl, Below.refl _ _⟩
  · have H := Aside0.mk h
    clear h
    go_wp2_with fail
    refine (l05Chisel_calls g1 a b _ B1.out ha hb').mono ?_
    rintro e w' ⟨rfl, rfl⟩
    cases h : chiselB a b
    · have H2 := Aside0.mk h
      clear h
      go_wp2_with fail
      go_ret
      exact ⟨by unfold okC; rw [H.out, H2.out]; rfl, Below.refl _ _⟩
    · have H2 := Aside0.mk h
      clear h
      go_wp2_with fail
      refine (text_calls s HS.out _).mono ?_
      rintro e w2 ⟨rfl, hb⟩
      have HB := Aside0.mk hb
      clear hb
      cases h : txt s.data.toList
      · have H3 := Aside0.mk h
        clear h
        go_wp2_with fail
        go_ret
        exact ⟨by unfold okC; rw [H.out, H2.out, H3.out]; rfl, HB.out⟩
      · have H3 := Aside0.mk h
        clear h
        go_wp2_with fail
        go_ret
        exact ⟨by unfold okC; rw [H.out, H2.out, H3.out]; rfl, HB.out⟩
theorem asked_at (ok : Bool) (g0 g1 : Nat) (l : List Int) (hl : l.length = 26) (hw : ∀ y ∈ l, -128 ≤ y ∧ y ≤ 127) (a b : Int) (ha : -32768 ≤ a ∧ a ≤ 32767) (hb' : -128 ≤ b ∧ b ≤ 127) (s : ByteArray) (hs : s.size ≤ 1048576) (w : World)
    (h0 : w.heap[g0]? = some (.cells (cellsK .i8 l) 25 (0, 0))) (h1 : w.heap[g1]? = some (.cells #[.int .i16 a, .int .i8 b] 54 (0, 0))) (h : okC l a b s = ok) :
    Calls Tryd.prog 74 #[.pointer (some ⟨g0, 0, none⟩), .pointer (some ⟨g1, 0, none⟩), .string s] w fun e w' => e = .returned (.int .i64 (codeOf ok)) ∧ Below w.heap.size w w' := by
  subst h
  exact asked_calls g0 g1 l hl hw a b ha hb' s hs w h0 h1
theorem unless_calls (x : Bool) (w : World) : Calls Tryd.prog 109 #[.bool x, .int .i64 1] w fun e w' => e = .returned (.int .i64 (codeOf x)) ∧ Below w.heap.size w w' :=
  (impl_unless.calls x 1 (codeOf x) w (by cases x <;> rfl)).mono fun e w' h => ⟨h.1, by have := h.2; first | exact this | exact this.below⟩
set_option maxHeartbeats 1000000 in
theorem chiselCode_calls (l : List Int) (hl : l.length = 26) (hw : ∀ y ∈ l, -128 ≤ y ∧ y ≤ 127) (a b : Int) (ha : -32768 ≤ a ∧ a ≤ 32767) (hb' : -128 ≤ b ∧ b ≤ 127) (s : ByteArray) (w : World) (hG : GlobM w) :
    Calls Tryd.prog 76 #[.agg (cellsK .i8 l), .agg #[.int .i16 a, .int .i8 b], .string s] w fun e w' => e = .returned (.int .i64 (codeOf (okC l a b s))) ∧ Below w.heap.size w w' := by
  have B0 := Aside0.mk (blk_alloc (blk_new w (.cells (cellsK .i8 l) 25)) (.cells #[.int .i16 a, .int .i8 b] 54))
  have B1 := Aside0.mk (blk_at (W := w.alloc (.cells (cellsK .i8 l) 25)) (n := w.heap.size + 1) (by simp) (.cells #[.int .i16 a, .int .i8 b] 54))
  have HB := Aside0.mk (below_alloc (below_alloc (Below.refl w.heap.size w) (.cells (cellsK .i8 l) 25)) (.cells #[.int .i16 a, .int .i8 b] 54))
  have hsz : (Tryd.prog.info? 25).map (·.size) = some (cellsK .i8 l).size := by rw [cellsK_size, hl]; exact info_Strokes
  have HSZ := Aside0.mk hsz
  have HSY : Aside0 ((Tryd.prog.info? 54).map (·.size) = some (#[.int .i16 a, .int .i8 b] : Array Value).size) := ⟨(by kernel_rfl : (Tryd.prog.info? 54).map (·.size) = some 2)⟩
  have HG := Aside0.mk hG
  clear hsz hG
  go_enter Tryd.func76, Tryd.ntmps76
  go_wp2_with (first | ((with_reducible refine gate_dst (N := 7) rfl ?_); refine wpList_load_row rfl 25 (.tmp 3) rfl w.heap.size rfl _ _ _ _ B0.out Tryd.underlying25 rfl HSZ.out ?_) | fail)
  refine (implValidStrokes_calls l hl hw _).mono ?_
  rintro e w1 ⟨rfl, hb⟩
  replace B1 := Aside0.mk (blk_below B1.out hb)
  replace HB := Aside0.mk (below_step HB.out hb)
  clear hb B0
  cases h : strokesB l
  · have H := Aside0.mk h
    clear h
    go_wp2_with fail
    refine (unless_calls _ _).mono ?_
    rintro e w2 ⟨rfl, hb⟩
    replace HB := Aside0.mk (below_step HB.out hb)
    clear hb
    go_wp2_with fail
    go_ret
    exact ⟨by unfold okC; rw [H.out]; rfl, HB.out⟩
  · have H := Aside0.mk h
    clear h
    have c0 : w1.cell? ⟨w.heap.size + 1, 0, none⟩ = some (.int .i16 a) := (blk_cell B1.out 0).trans rfl
    have c1 : w1.cell? ⟨w.heap.size + 1, 1, none⟩ = some (.int .i8 b) := (blk_cell B1.out 1).trans rfl
    go_wp2_with fail
    clear c0 c1
    refine (implValidChisel_calls a b _ ha hb').mono ?_
    rintro e w2 ⟨rfl, hb⟩
    replace HB := Aside0.mk (below_step HB.out hb)
    clear hb B1
    cases h : chiselB a b
    · have H2 := Aside0.mk h
      clear h
      go_wp2_with fail
      refine (unless_calls _ _).mono ?_
      rintro e w3 ⟨rfl, hb⟩
      replace HB := Aside0.mk (below_step HB.out hb)
      clear hb
      go_wp2_with fail
      go_ret
      exact ⟨by unfold okC; rw [H.out, H2.out]; rfl, HB.out⟩
    · have H2 := Aside0.mk h
      clear h
      go_wp2_with fail
      refine (vtext_calls s _ (HG.out.below HB.out)).mono ?_
      rintro e w3 ⟨rfl, hb⟩
      replace HB := Aside0.mk (below_step HB.out hb)
      clear hb
      have HE := Aside0.mk (show okC l a b s = txt s.data.toList by unfold okC; rw [H.out, H2.out]; rfl)
      generalize txt s.data.toList = x at *
      go_wp2_with fail
      refine (unless_calls _ _).mono ?_
      rintro e w4 ⟨rfl, hb⟩
      replace HB := Aside0.mk (below_step HB.out hb)
      clear hb
      go_wp2_with fail
      go_ret
      exact ⟨by rw [HE.out]; rfl, HB.out⟩
theorem chiselCode_at (ok : Bool) (l : List Int) (hl : l.length = 26) (hw : ∀ y ∈ l, -128 ≤ y ∧ y ≤ 127) (a b : Int) (ha : -32768 ≤ a ∧ a ≤ 32767) (hb' : -128 ≤ b ∧ b ≤ 127) (s : ByteArray) (w : World) (hG : GlobM w) (h : okC l a b s = ok) :
    Calls Tryd.prog 76 #[.agg (cellsK .i8 l), .agg #[.int .i16 a, .int .i8 b], .string s] w fun e w' => e = .returned (.int .i64 (codeOf ok)) ∧ Below w.heap.size w w' := by
  subst h
  exact chiselCode_calls l hl hw a b ha hb' s w hG
/-- The reference's places ahead of which a chisel is sharpened. -/
theorem sharpens_calls (g : Nat) (a b : Int) (A : Option Addr) (c : Nat) (l : List Int) (w : World) (hg : w.heap[g]? = some (.cells #[.int .i16 a, .int .i8 b] 54 (0, 0))) (hr : Kd.C (Kd.int .i64) w A l.length l) (hc : l.length ≤ c) (hl : l.length ≤ 1000)
    (hf : ∀ ad, A = some ad → 0 < l.length → ad.block ≠ g) :
    Calls Tryd.prog 78 #[.pointer (some ⟨g, 0, none⟩), .slice A l.length c] w fun e w' => ∃ v0_ : Value, e = .returned (v0_) ∧ Kd.R (Kd.int .i64) 2 w' w.heap.size (fun _ => True) v0_ (Pure.shp a 0 0 l) ∧ Below w.heap.size w w' := by
  obtain ⟨w0, hw0, hsz⟩ : ∃ w0 : World, Below w0.heap.size w0 w ∧ w0.heap.size = 0 := ⟨{ w with heap := #[] }, ⟨rfl, rfl, rfl, Nat.zero_le _, fun k hk => absurd hk (Nat.not_lt_zero _)⟩, rfl⟩
  refine (spec_l05Sharpens.calls (l.length + 1) g a b A c l (Pure.shp a 0 0 l) a b w0 w ⟨hg, by omega⟩ hw0 hr hc hf (Pure.sharpens_eq a b l hl (by omega))).mono ?_
  rintro e w' ⟨v, rfl, ho, hI, hB, hK⟩
  refine ⟨v, rfl, ho, ⟨hB.os.trans hw0.os.symm, hB.tape.trans hw0.tape.symm, hB.output.trans hw0.output.symm, hK.1, fun k hk => ?_⟩⟩
  by_cases hkg : k = g
  · subst hkg; rw [hI.1, hg]
  · exact hK.2 k hk hkg (by simp)
set_option maxHeartbeats 1000000 in
set_option maxRecDepth 10000 in
theorem l05Time_calls (g : Nat) (a b : Int) (hb' : -128 ≤ b ∧ b ≤ 127) (A : Option Addr) (c : Nat) (l : List Int) (w : World) (hg : w.heap[g]? = some (.cells #[.int .i16 a, .int .i8 b] 54 (0, 0))) (hr : Kd.C (Kd.int .i64) w A l.length l) (hc : l.length ≤ c) (hl : l.length ≤ 1000)
    (hf : ∀ ad, A = some ad → 0 < l.length → ad.block ≠ g) :
    Calls Tryd.prog 75 #[.pointer (some ⟨g, 0, none⟩), .slice A l.length c] w fun e w' => e = .returned (.int .i64 (Pure.minC a b l)) ∧ Below w.heap.size w w' := by
  have B1 := Aside0.mk hg
  have HR := Aside0.mk hr
  have HC := Aside0.mk hc
  have HL := Aside0.mk hl
  have HF := Aside0.mk hf
  clear hg hr hc hl hf
  have hbw : wrap64 b = b := by unfold wrap64; omega
  go_enter Tryd.func75, Tryd.ntmps75
  go_wp2_with fail
  refine start_ (n := 14) (S := fun w' => w'.heap[g]? = some (.cells #[.int .i16 a, .int .i8 b] 54 (0, 0)) ∧ w'.cell? ⟨g, 1, none⟩ = some (.int .i8 b) ∧ Kd.C (Kd.int .i64) w' A l.length l ∧ Below w.heap.size w w') (ds := []) #[false, false, false, false, false, false, false, false, false, false, false, false, false, false] (by kernel_rfl) rfl rfl ⟨(blk_below B1.out (below_drew (Below.refl _ _))), (cellOne (blk_below B1.out (below_drew (Below.refl _ _)))), (Kd.C_drew HR.out), (below_drew (Below.refl _ _))⟩ (fun hHeld => ?_)
  refine pure_ (i := 0) (N := some 5) (v := ?_) (a' := ?_) #[true, false, false, false, false, false, false, false, false, false, false, false, false, false] rfl rfl (by kernel_rfl) (fun _ _ _ h => h) (Or.inl ⟨by rfl, ?_⟩) ?_ ?_
  rotate_left
  · intro w'
    go_simp
    with_reducible rfl
  rotate_left
  · simp only [Act.put, List.setIfInBounds_toArray, List.set_cons_zero, List.set_cons_succ, i64_w, i32_w]
    rfl
  refine pure_ (i := 2) (N := some 7) (v := ?_) (a' := ?_) #[true, false, true, false, false, false, false, false, false, false, false, false, false, false] rfl rfl (by kernel_rfl) (fun _ _ _ h => h) (Or.inl ⟨by rfl, ?_⟩) ?_ ?_
  rotate_left
  · intro w'
    go_simp
    with_reducible rfl
  rotate_left
  · simp only [Act.put, List.setIfInBounds_toArray, List.set_cons_zero, List.set_cons_succ, i64_w, i32_w]
    rfl
  refine pure_ (i := 3) (N := some 8) (v := ?_) (a' := ?_) #[true, false, true, true, false, false, false, false, false, false, false, false, false, false] rfl rfl (by kernel_rfl) (fun _ _ _ h => h) (Or.inl ⟨by rfl, ?_⟩) ?_ ?_
  rotate_left
  · intro w'
    go_simp
    with_reducible rfl
  rotate_left
  · simp only [Act.put, List.setIfInBounds_toArray, List.set_cons_zero, List.set_cons_succ, i64_w, i32_w]
    rfl
  refine pure_ (i := 6) (N := some 11) (v := ?_) (a' := ?_) #[true, false, true, true, false, false, true, false, false, false, false, false, false, false] rfl rfl (by kernel_rfl) (fun _ _ _ h => h) (Or.inl ⟨by rfl, ?_⟩) ?_ ?_
  rotate_left
  · intro w'
    go_simp
    with_reducible rfl
  rotate_left
  · simp only [Act.put, List.setIfInBounds_toArray, List.set_cons_zero, List.set_cons_succ, i64_w, i32_w]
    rfl
  refine pure_ (i := 7) (N := some 12) (v := ?_) (a' := ?_) #[true, false, true, true, false, false, true, true, false, false, false, false, false, false] rfl rfl (by kernel_rfl) (fun _ _ _ h => h) (Or.inl ⟨by rfl, ?_⟩) ?_ ?_
  rotate_left
  · intro w'
    go_simp
    with_reducible rfl
  rotate_left
  · simp only [Act.put, List.setIfInBounds_toArray, List.set_cons_zero, List.set_cons_succ, i64_w, i32_w]
    rfl
  refine pure_ (i := 8) (N := some 13) (v := ?_) (a' := ?_) #[true, false, true, true, false, false, true, true, true, false, false, false, false, false] rfl rfl (by kernel_rfl) (fun _ _ _ h => h) (Or.inl ⟨by rfl, ?_⟩) ?_ ?_
  rotate_left
  · intro w'
    go_simp
    with_reducible rfl
  rotate_left
  · simp only [Act.put, List.setIfInBounds_toArray, List.set_cons_zero, List.set_cons_succ, i64_w, i32_w]
    rfl
  refine take_ (i := 9) (N := some 14) (v := ?_) (a' := ?_) #[true, false, true, true, false, false, true, true, true, true, false, false, false, false] rfl rfl (by kernel_rfl) (fun _ _ _ h => h) (Or.inl ⟨by rfl, ?_⟩) hHeld ?_ ?_
  rotate_left
  · rintro w' ⟨s0, s1, s2, s3⟩
    go_simp
    with_reducible rfl
  rotate_left
  · simp only [Act.put, List.setIfInBounds_toArray, List.set_cons_zero, List.set_cons_succ, i64_w, i32_w]
    rfl
  refine pure_ (i := 10) (N := some 15) (v := ?_) (a' := ?_) #[true, false, true, true, false, false, true, true, true, true, true, false, false, false] rfl rfl (by kernel_rfl) (fun _ _ _ h => h) (Or.inl ⟨by rfl, ?_⟩) ?_ ?_
  rotate_left
  · intro w'
    go_simp
    with_reducible rfl
  rotate_left
  · simp only [Act.put, List.setIfInBounds_toArray, List.set_cons_zero, List.set_cons_succ, i64_w, i32_w]
    rfl
  refine one_ (i := 1) (N := some 6) #[true, true, true, true, false, false, true, true, true, true, true, false, false, false] rfl rfl (by kernel_rfl) (by decide) (fun K hK => ?_)
  refine goes_ Tryd.func66 (by kernel_rfl) rfl #[.slice A l.length c] (by rfl) rfl rfl (by simp only [List.map_toArray, List.map_cons, List.map_nil]; rfl) ?_
  with_reducible refine ((sum_calls A c l _ hHeld.2.2.1 HC.out HL.out)).mono ?_
  rintro e w3 ⟨rfl, hb⟩
  refine ⟨_, rfl, ?_⟩
  refine hK.out _ _ ⟨(blk_below hHeld.1 hb), (cellOne (blk_below hHeld.1 hb)), (Kd.C_below hHeld.2.2.1 hb), (below_step hHeld.2.2.2 hb)⟩ (fun hHeld => ?_)
  clear hK K
  refine norm_ (a' := ?_) ?_ ?_
  rotate_left
  · show Act.put _ (some 6) _ = _
    simp only [Act.put, List.setIfInBounds_toArray, List.set_cons_zero, List.set_cons_succ, i64_w, i32_w]
    rfl
  refine one_ (i := 4) (N := some 9) #[true, true, true, true, true, false, true, true, true, true, true, false, false, false] rfl rfl (by kernel_rfl) (by decide) (fun K hK => ?_)
  refine goes_ Tryd.func78 (by kernel_rfl) rfl #[.pointer (some ⟨g, 0, none⟩), .slice A l.length c] (by rfl) rfl rfl (by simp only [List.map_toArray, List.map_cons, List.map_nil]; rfl) ?_
  with_reducible refine ((sharpens_calls g a b A c l _ hHeld.1 hHeld.2.2.1 HC.out HL.out HF.out)).mono ?_
  rintro e w3 ⟨v, rfl, ho, hb⟩
  refine ⟨_, rfl, ?_⟩
  obtain ⟨A2, c2, rfl, hc2, hr2⟩ := Kd.R_reads ho
  refine hK.out _ _ ⟨(blk_below hHeld.1 hb), (cellOne (blk_below hHeld.1 hb)), (Kd.C_below hHeld.2.2.1 hb), (below_step hHeld.2.2.2 hb)⟩ (fun hHeld => ?_)
  clear hK K
  refine norm_ (a' := ?_) ?_ ?_
  rotate_left
  · show Act.put _ (some 9) _ = _
    simp only [Act.put, List.setIfInBounds_toArray, List.set_cons_zero, List.set_cons_succ, i64_w, i32_w]
    rfl
  refine pure_ (i := 5) (N := some 10) (v := ?_) (a' := ?_) #[true, true, true, true, true, true, true, true, true, true, true, false, false, false] rfl rfl (by kernel_rfl) (fun _ _ _ h => h) (Or.inl ⟨by rfl, ?_⟩) ?_ ?_
  rotate_left
  · intro w'
    go_simp
    with_reducible rfl
  rotate_left
  · simp only [Act.put, List.setIfInBounds_toArray, List.set_cons_zero, List.set_cons_succ, i64_w, i32_w]
    rfl
  refine pure_ (i := 11) (N := some 16) (v := ?_) (a' := ?_) #[true, true, true, true, true, true, true, true, true, true, true, true, false, false] rfl rfl (by kernel_rfl) (fun _ _ _ h => h) (Or.inl ⟨by rfl, ?_⟩) ?_ ?_
  rotate_left
  · intro w'
    go_simp
    with_reducible rfl
  rotate_left
  · simp only [Act.put, List.setIfInBounds_toArray, List.set_cons_zero, List.set_cons_succ, i64_w, i32_w]
    rfl
  refine pure_ (i := 12) (N := some 17) (v := ?_) (a' := ?_) #[true, true, true, true, true, true, true, true, true, true, true, true, true, false] rfl rfl (by kernel_rfl) (fun _ _ _ h => h) (Or.inl ⟨by rfl, ?_⟩) ?_ ?_
  rotate_left
  · intro w'
    go_simp
    with_reducible rfl
  rotate_left
  · simp only [Act.put, List.setIfInBounds_toArray, List.set_cons_zero, List.set_cons_succ, i64_w, i32_w]
    rfl
  refine pure_ (i := 13) (N := some 4) (v := ?_) (a' := ?_) #[true, true, true, true, true, true, true, true, true, true, true, true, true, true] rfl rfl (by kernel_rfl) (fun _ _ _ h => h) (Or.inl ⟨by rfl, ?_⟩) ?_ ?_
  rotate_left
  · intro w'
    go_simp
    with_reducible rfl
  rotate_left
  · simp only [Act.put, List.setIfInBounds_toArray, List.set_cons_zero, List.set_cons_succ, i64_w, i32_w]
    rfl
  refine done_ (by kernel_rfl) ?_
  go_wp2_with fail
  go_ret
  exact ⟨by unfold Pure.minC; rw [hbw]; rfl, hHeld.2.2.2⟩
/-- What TimeFor answers. -/
def tfC (l : List Int) (a b : Int) (s : ByteArray) : Int × Int := if okC l a b s then (Pure.minC a b (strokesOf l (Pure.letters s.data.toList)), 0) else (0, 1)
theorem tfC_f {l : List Int} {a b : Int} {s : ByteArray} (h : okC l a b s = false) : tfC l a b s = (0, 1) := by unfold tfC; rw [h]; rfl
theorem tfC_t {l : List Int} {a b : Int} {s : ByteArray} (h : okC l a b s = true) : tfC l a b s = (Pure.minC a b (strokesOf l (Pure.letters s.data.toList)), 0) := by unfold tfC; rw [h]; rfl
theorem apart_of {α : Type} {d : Kd α} {e base : Nat} {w : World} {ok : Nat → Prop} {A : Option Addr} {n c : Nat} {xs : List α} (h : d.R e w base ok (.slice A n c) xs) {g : Nat} {o : Obj} (hb : w.heap[g]? = some o) (ho : ∀ cells, o ≠ .cells cells e (0, 0)) : ∀ ad, A = some ad → 0 < n → ad.block ≠ g := by
  rintro ad rfl _ he
  exact R_neB h hb ho (by simp [Value.ownBlock, he])
set_option maxHeartbeats 1000000 in
theorem specTimeFor_calls (l : List Int) (hl : l.length = 26) (hw : ∀ y ∈ l, -128 ≤ y ∧ y ≤ 127) (a b : Int) (ha : -32768 ≤ a ∧ a ≤ 32767) (hb' : -128 ≤ b ∧ b ≤ 127) (s : ByteArray) (hs : s.size ≤ 1048576) (w : World) :
    Calls Tryd.prog 34 #[.agg (cellsK .i8 l), .agg #[.int .i16 a, .int .i8 b], .string s] w fun e w' => e = .returned (.tuple #[.int .i64 (tfC l a b s).1, .int .i64 (tfC l a b s).2]) ∧ Below w.heap.size w w' := by
  have B0 := Aside0.mk (blk_alloc (blk_new w (.cells (cellsK .i8 l) 25)) (.cells #[.int .i16 a, .int .i8 b] 54))
  have B1 := Aside0.mk (blk_at (W := w.alloc (.cells (cellsK .i8 l) 25)) (n := w.heap.size + 1) (by simp) (.cells #[.int .i16 a, .int .i8 b] 54))
  have HB := Aside0.mk (below_alloc (below_alloc (Below.refl w.heap.size w) (.cells (cellsK .i8 l) 25)) (.cells #[.int .i16 a, .int .i8 b] 54))
  have HS := Aside0.mk hs
  clear hs
  cases hok : okC l a b s
  all_goals
    have HOK := Aside0.mk hok
    clear hok
    go_enter Tryd.func34, Tryd.ntmps34
    go_wp2_with fail
    refine (asked_at _ _ _ l hl hw a b ha hb' s HS.out _ B0.out B1.out HOK.out).mono ?_
    rintro e w1 ⟨rfl, hb⟩
    replace B0 := Aside0.mk (blk_below B0.out hb)
    replace B1 := Aside0.mk (blk_below B1.out hb)
    replace HB := Aside0.mk (below_step HB.out hb)
    clear hb
    simp only [codeOf]
    go_wp2_with fail
  · go_ret2
    exact ⟨by rw [tfC_f HOK.out]; rfl, HB.out⟩
  · have HTx := Aside0.mk (okC_3 HOK.out)
    refine (l05List_calls _ l hl hw s (txt60 HTx.out) (txt_letters HTx.out) _ B0.out).mono ?_
    rintro e w3 ⟨v, rfl, ho, hb⟩
    have HO := Aside0.mk ho
    replace B1 := Aside0.mk (blk_below B1.out hb)
    replace HB := Aside0.mk (below_step HB.out hb)
    clear ho hb B0
    obtain ⟨A, c, rfl, hc, hr⟩ := Kd.R_reads HO.out
    have HR := Aside0.mk hr
    have HC := Aside0.mk hc
    clear hr hc
    go_wp2_with fail
    refine (l05Time_calls _ a b hb' A c _ _ B1.out HR.out HC.out (by have := strokes60 l (txt60 HTx.out); omega) (apart_of HO.out B1.out (by simp))).mono ?_
    rintro e w4 ⟨rfl, hb⟩
    replace HB := Aside0.mk (below_step HB.out hb)
    clear hb
    go_wp2_with fail
    go_ret2
    exact ⟨by rw [tfC_t HOK.out]; rfl, HB.out⟩
set_option maxHeartbeats 1000000 in
set_option maxRecDepth 10000 in
theorem implTimeFor_calls (l : List Int) (hl : l.length = 26) (hw : ∀ y ∈ l, -128 ≤ y ∧ y ≤ 127) (a b : Int) (ha : -32768 ≤ a ∧ a ≤ 32767) (hb' : -128 ≤ b ∧ b ≤ 127) (s : ByteArray) (w : World) (hG : GlobM w) :
    Calls Tryd.prog 36 #[.agg (cellsK .i8 l), .agg #[.int .i16 a, .int .i8 b], .string s] w fun e w' => e = .returned (.tuple #[.int .i64 (tfC l a b s).1, .int .i64 (tfC l a b s).2]) ∧ Below w.heap.size w w' := by
  have B0 := Aside0.mk (blk_alloc (blk_new w (.cells (cellsK .i8 l) 25)) (.cells #[.int .i16 a, .int .i8 b] 54))
  have B1 := Aside0.mk (blk_at (W := w.alloc (.cells (cellsK .i8 l) 25)) (n := w.heap.size + 1) (by simp) (.cells #[.int .i16 a, .int .i8 b] 54))
  have HB := Aside0.mk (below_alloc (below_alloc (Below.refl w.heap.size w) (.cells (cellsK .i8 l) 25)) (.cells #[.int .i16 a, .int .i8 b] 54))
  have hsz : (Tryd.prog.info? 25).map (·.size) = some (cellsK .i8 l).size := by rw [cellsK_size, hl]; exact info_Strokes
  have HSZ := Aside0.mk hsz
  have HSY : Aside0 ((Tryd.prog.info? 54).map (·.size) = some (#[.int .i16 a, .int .i8 b] : Array Value).size) := ⟨(by kernel_rfl : (Tryd.prog.info? 54).map (·.size) = some 2)⟩
  have HG := Aside0.mk hG
  clear hsz hG
  cases hok : okC l a b s
  all_goals
    have HOK := Aside0.mk hok
    clear hok
    go_enter Tryd.func36, Tryd.ntmps36
    go_wp2_with (first | ((with_reducible refine gate_dst (N := 9) rfl ?_); refine wpList_load_row rfl 25 (.tmp 3) rfl w.heap.size rfl _ _ _ _ B0.out Tryd.underlying25 rfl HSZ.out ?_) | ((with_reducible refine gate_dst (N := 10) rfl ?_); refine wpList_load_row rfl 54 (.tmp 4) rfl (w.heap.size + 1) rfl _ _ _ _ B1.out Tryd.underlying54 rfl HSY.out ?_) | fail)
    refine (chiselCode_at _ l hl hw a b ha hb' s _ (HG.out.below HB.out) HOK.out).mono ?_
    rintro e w1 ⟨rfl, hb⟩
    replace B0 := Aside0.mk (blk_below B0.out hb)
    replace B1 := Aside0.mk (blk_below B1.out hb)
    replace HB := Aside0.mk (below_step HB.out hb)
    clear hb
    simp only [codeOf]
    go_wp2_with fail
  · go_ret2
    exact ⟨by rw [tfC_f HOK.out]; rfl, HB.out⟩
  · have HTx := Aside0.mk (okC_3 HOK.out)
    refine start_ (n := 7) (S := fun w' => w'.heap[w.heap.size]? = some (.cells (cellsK .i8 l) 25 (0, 0)) ∧ w'.heap[w.heap.size + 1]? = some (.cells #[.int .i16 a, .int .i8 b] 54 (0, 0)) ∧ Below w.heap.size w w') (ds := []) #[false, false, false, false, false, false, false] (by kernel_rfl) rfl rfl ⟨(blk_below B0.out (below_drew (Below.refl _ _))), (blk_below B1.out (below_drew (Below.refl _ _))), (below_step HB.out (below_drew (Below.refl _ _)))⟩ (fun hHeld => ?_)
    refine pure_ (i := 2) (N := some 18) (v := ?_) (a' := ?_) #[false, false, true, false, false, false, false] rfl rfl (by kernel_rfl) (fun _ _ _ h => h) (Or.inl ⟨by rfl, ?_⟩) ?_ ?_
    rotate_left
    · intro w'
      go_simp
      with_reducible rfl
    rotate_left
    · simp only [Act.put, List.setIfInBounds_toArray, List.set_cons_zero, List.set_cons_succ, i64_w, i32_w]
      rfl
    refine take_ (i := 0) (N := some 16) (v := ?_) (a' := ?_) #[true, false, true, false, false, false, false] rfl rfl (by kernel_rfl) (fun _ _ _ h => h) (Or.inl ⟨by rfl, ?_⟩) hHeld ?_ ?_
    rotate_left
    · rintro w' ⟨s0, s1, s2⟩
      refine exec_load_row 54 (.tmp 4) ?_ (w.heap.size + 1) ?_ _ _ _ _ s1 Tryd.underlying54 rfl HSY.out
      · rfl
      · rfl
    rotate_left
    · simp only [Act.put, List.setIfInBounds_toArray, List.set_cons_zero, List.set_cons_succ, i64_w, i32_w]
      rfl
    refine take_ (i := 1) (N := some 17) (v := ?_) (a' := ?_) #[true, true, true, false, false, false, false] rfl rfl (by kernel_rfl) (fun _ _ _ h => h) (Or.inl ⟨by rfl, ?_⟩) hHeld ?_ ?_
    rotate_left
    · rintro w' ⟨s0, s1, s2⟩
      refine exec_load_row 25 (.tmp 3) ?_ w.heap.size ?_ _ _ _ _ s0 Tryd.underlying25 rfl HSZ.out
      · rfl
      · rfl
    rotate_left
    · simp only [Act.put, List.setIfInBounds_toArray, List.set_cons_zero, List.set_cons_succ, i64_w, i32_w]
      rfl
    refine one_ (i := 3) (N := some 19) #[true, true, true, true, false, false, false] rfl rfl (by kernel_rfl) (by decide) (fun K hK => ?_)
    refine goes_ Tryd.func70 (by kernel_rfl) rfl #[.agg (cellsK .i8 l), .string s] (by rfl) rfl rfl (by simp only [List.map_toArray, List.map_cons, List.map_nil]; rfl) ?_
    with_reducible refine ((each_calls l hl hw s (txt60 HTx.out) (txt_letters HTx.out) _ (HG.out.below hHeld.2.2))).mono ?_
    rintro e w3 ⟨v, rfl, ho, hb⟩
    refine ⟨_, rfl, ?_⟩
    obtain ⟨A, c, rfl, hc, hr⟩ := Kd.R_reads ho
    refine hK.out _ _ ⟨(blk_below hHeld.1 hb), (blk_below hHeld.2.1 hb), (below_step hHeld.2.2 hb)⟩ (fun hHeld => ?_)
    clear hK K
    refine norm_ (a' := ?_) ?_ ?_
    rotate_left
    · show Act.put _ (some 19) _ = _
      simp only [Act.put, List.setIfInBounds_toArray, List.set_cons_zero, List.set_cons_succ, i64_w, i32_w]
      rfl
    refine one_ (i := 4) (N := some 20) #[true, true, true, true, true, false, false] rfl rfl (by kernel_rfl) (by decide) (fun K hK => ?_)
    refine goes_ Tryd.func77 (by kernel_rfl) rfl #[.agg #[.int .i16 a, .int .i8 b], .slice A (strokesOf l (Pure.letters s.data.toList)).length c] (by rfl) rfl rfl (by simp only [List.map_toArray, List.map_cons, List.map_nil]; rfl) ?_
    with_reducible refine ((impl_Chisel_minutes.calls 100 a b A c _ _ _ hr hc (Pure.minutes_eq a b _ (by have := strokes60 l (txt60 HTx.out); omega) (by have := strokes60 l (txt60 HTx.out); omega)))).mono ?_
    rintro e w3 ⟨rfl, hb⟩
    refine ⟨_, rfl, ?_⟩
    refine hK.out _ _ ⟨(blk_below hHeld.1 hb), (blk_below hHeld.2.1 hb), (below_step hHeld.2.2 hb)⟩ (fun hHeld => ?_)
    clear hK K
    refine norm_ (a' := ?_) ?_ ?_
    rotate_left
    · show Act.put _ (some 20) _ = _
      simp only [Act.put, List.setIfInBounds_toArray, List.set_cons_zero, List.set_cons_succ, i64_w, i32_w]
      rfl
    refine pure_ (i := 5) (N := some 6) (v := ?_) (a' := ?_) #[true, true, true, true, true, true, false] rfl rfl (by kernel_rfl) (fun _ _ _ h => h) (Or.inl ⟨by rfl, ?_⟩) ?_ ?_
    rotate_left
    · intro w'
      go_simp
      with_reducible rfl
    rotate_left
    · simp only [Act.put, List.setIfInBounds_toArray, List.set_cons_zero, List.set_cons_succ, i64_w, i32_w]
      rfl
    refine pure_ (i := 6) (N := some 7) (v := ?_) (a' := ?_) #[true, true, true, true, true, true, true] rfl rfl (by kernel_rfl) (fun _ _ _ h => h) (Or.inl ⟨by rfl, ?_⟩) ?_ ?_
    rotate_left
    · intro w'
      go_simp
      with_reducible rfl
    rotate_left
    · simp only [Act.put, List.setIfInBounds_toArray, List.set_cons_zero, List.set_cons_succ, i64_w, i32_w]
      rfl
    refine done_ (by kernel_rfl) ?_
    go_wp2_with fail
    go_ret2
    exact ⟨by rw [tfC_t HOK.out]; rfl, hHeld.2.2⟩
set_option maxHeartbeats 1000000 in
set_option maxRecDepth 10000 in
theorem FnExactTimeFor_calls (l : List Int) (hl : l.length = 26) (hwf : ∀ y ∈ l, (Lit.int .i8 y).wf = true) (a b : Int) (wa : (Lit.int .i16 a).wf = true) (wb : (Lit.int .i8 b).wf = true) (s : ByteArray) (w : World) (hG : GlobM w) :
    Calls Tryd.prog 9 #[.agg (cellsK .i8 l), .agg #[.int .i16 a, .int .i8 b], .string s] w fun e w' => e = .returned (.bool true) ∧ Below w.heap.size w w' := by
  have hw := wf8 hwf
  have ha : -32768 ≤ a ∧ a ≤ 32767 := by simpa [Lit.wf, IntKind.min, IntKind.max, IntKind.signed, IntKind.bits] using wa
  have hb' : -128 ≤ b ∧ b ≤ 127 := by simpa [Lit.wf, IntKind.min, IntKind.max, IntKind.signed, IntKind.bits] using wb
  clear wa wb hwf
  have B0 := Aside0.mk (blk_alloc (blk_new w (.cells (cellsK .i8 l) 23)) (.cells #[.int .i16 a, .int .i8 b] 52))
  have B1 := Aside0.mk (blk_at (W := w.alloc (.cells (cellsK .i8 l) 23)) (n := w.heap.size + 1) (by simp) (.cells #[.int .i16 a, .int .i8 b] 52))
  have HB := Aside0.mk (below_alloc (below_alloc (Below.refl w.heap.size w) (.cells (cellsK .i8 l) 23)) (.cells #[.int .i16 a, .int .i8 b] 52))
  have hsz : (Tryd.prog.info? 23).map (·.size) = some (cellsK .i8 l).size := by rw [cellsK_size, hl]; kernel_rfl
  have HSZ := Aside0.mk hsz
  have HSY : Aside0 ((Tryd.prog.info? 52).map (·.size) = some (#[.int .i16 a, .int .i8 b] : Array Value).size) := ⟨(by kernel_rfl : (Tryd.prog.info? 52).map (·.size) = some 2)⟩
  have HG := Aside0.mk hG
  clear hsz hG
  go_enter Tryd.func9, Tryd.ntmps9
  by_cases hs : s.size ≤ 1048576
  · have hs1 : decide ((s.size : Int) > 1048576) = false := by simp; omega
    have hs2 : decide ((1048576 : Int) < s.size) = false := by simp; omega
    have HS := Aside0.mk hs
    clear hs
    go_wp2_with fail
    refine start_ (n := 11) (S := fun w' => w'.heap[w.heap.size]? = some (.cells (cellsK .i8 l) 23 (0, 0)) ∧ w'.heap[w.heap.size + 1]? = some (.cells #[.int .i16 a, .int .i8 b] 52 (0, 0)) ∧ Below w.heap.size w w') (ds := []) #[false, false, false, false, false, false, false, false, false, false, false] (by kernel_rfl) rfl rfl ⟨(blk_below B0.out (below_drew (Below.refl _ _))), (blk_below B1.out (below_drew (Below.refl _ _))), (below_step HB.out (below_drew (Below.refl _ _)))⟩ (fun hHeld => ?_)
    refine pure_ (i := 4) (N := some 19) (v := ?_) (a' := ?_) #[false, false, false, false, true, false, false, false, false, false, false] rfl rfl (by kernel_rfl) (fun _ _ _ h => h) (Or.inl ⟨by rfl, ?_⟩) ?_ ?_
    rotate_left
    · intro w'
      go_simp
      with_reducible rfl
    rotate_left
    · simp only [Act.put, List.setIfInBounds_toArray, List.set_cons_zero, List.set_cons_succ, i64_w, i32_w]
      rfl
    refine take_ (i := 0) (N := some 15) (v := ?_) (a' := ?_) #[true, false, false, false, true, false, false, false, false, false, false] rfl rfl (by kernel_rfl) (fun _ _ _ h => h) (Or.inl ⟨by rfl, ?_⟩) hHeld ?_ ?_
    rotate_left
    · rintro w' ⟨s0, s1, s2⟩
      refine exec_load_row 23 (.tmp 3) ?_ w.heap.size ?_ _ _ _ _ s0 Tryd.underlying23 rfl HSZ.out
      · rfl
      · rfl
    rotate_left
    · simp only [Act.put, List.setIfInBounds_toArray, List.set_cons_zero, List.set_cons_succ, i64_w, i32_w]
      rfl
    refine take_ (i := 2) (N := some 17) (v := ?_) (a' := ?_) #[true, false, true, false, true, false, false, false, false, false, false] rfl rfl (by kernel_rfl) (fun _ _ _ h => h) (Or.inl ⟨by rfl, ?_⟩) hHeld ?_ ?_
    rotate_left
    · rintro w' ⟨s0, s1, s2⟩
      refine exec_load_row 52 (.tmp 4) ?_ (w.heap.size + 1) ?_ _ _ _ _ s1 Tryd.underlying52 rfl HSY.out
      · rfl
      · rfl
    rotate_left
    · simp only [Act.put, List.setIfInBounds_toArray, List.set_cons_zero, List.set_cons_succ, i64_w, i32_w]
      rfl
    refine one_ (i := 1) (N := some 16) #[true, true, true, false, true, false, false, false, false, false, false] rfl rfl (by kernel_rfl) (by decide) (fun K hK => ?_)
    refine goes_ Tryd.func16 (by kernel_rfl) rfl #[.agg (cellsK .i8 l)] (by rfl) rfl rfl (by simp only [List.map_toArray, List.map_cons, List.map_nil]; rfl) ?_
    with_reducible refine ((laws_toStrokes_calls l hl _)).mono ?_
    rintro e w3 ⟨rfl, hb⟩
    refine ⟨_, rfl, ?_⟩
    refine hK.out _ _ ⟨(blk_below hHeld.1 hb), (blk_below hHeld.2.1 hb), (below_step hHeld.2.2 hb)⟩ (fun hHeld => ?_)
    clear hK K
    refine norm_ (a' := ?_) ?_ ?_
    rotate_left
    · show Act.put _ (some 16) _ = _
      simp only [Act.put, List.setIfInBounds_toArray, List.set_cons_zero, List.set_cons_succ, i64_w, i32_w]
      rfl
    refine one_ (i := 3) (N := some 18) #[true, true, true, true, true, false, false, false, false, false, false] rfl rfl (by kernel_rfl) (by decide) (fun K hK => ?_)
    refine goes_ Tryd.func35 (by kernel_rfl) rfl #[.agg #[.int .i16 a, .int .i8 b]] (by rfl) rfl rfl (by simp only [List.map_toArray, List.map_cons, List.map_nil]; rfl) ?_
    with_reducible refine ((toChisel_calls a b _)).mono ?_
    rintro e w3 ⟨rfl, hb⟩
    refine ⟨_, rfl, ?_⟩
    refine hK.out _ _ ⟨(blk_below hHeld.1 hb), (blk_below hHeld.2.1 hb), (below_step hHeld.2.2 hb)⟩ (fun hHeld => ?_)
    clear hK K
    refine norm_ (a' := ?_) ?_ ?_
    rotate_left
    · show Act.put _ (some 18) _ = _
      simp only [Act.put, List.setIfInBounds_toArray, List.set_cons_zero, List.set_cons_succ, i64_w, i32_w]
      rfl
    refine one_ (i := 5) (N := some 20) #[true, true, true, true, true, true, false, false, false, false, false] rfl rfl (by kernel_rfl) (by decide) (fun K hK => ?_)
    refine goes_ Tryd.func34 (by kernel_rfl) rfl #[.agg (cellsK .i8 l), .agg #[.int .i16 a, .int .i8 b], .string s] (by rfl) rfl rfl (by simp only [List.map_toArray, List.map_cons, List.map_nil]; rfl) ?_
    with_reducible refine ((specTimeFor_calls l hl hw a b ha hb' s HS.out _)).mono ?_
    rintro e w3 ⟨rfl, hb⟩
    refine ⟨_, rfl, ?_⟩
    refine hK.out _ _ ⟨(blk_below hHeld.1 hb), (blk_below hHeld.2.1 hb), (below_step hHeld.2.2 hb)⟩ (fun hHeld => ?_)
    clear hK K
    refine norm_ (a' := ?_) ?_ ?_
    rotate_left
    · show Act.put _ (some 20) _ = _
      simp only [Act.put, List.setIfInBounds_toArray, List.set_cons_zero, List.set_cons_succ, i64_w, i32_w]
      rfl
    refine pure_ (i := 6) (N := some 14) (v := ?_) (a' := ?_) #[true, true, true, true, true, true, true, false, false, false, false] rfl rfl (by kernel_rfl) (fun _ _ _ h => h) (Or.inl ⟨by rfl, ?_⟩) ?_ ?_
    rotate_left
    · intro w'
      go_simp
      with_reducible rfl
    rotate_left
    · simp only [Act.put, List.setIfInBounds_toArray, List.set_cons_zero, List.set_cons_succ, i64_w, i32_w]
      rfl
    refine pure_ (i := 7) (N := some 21) (v := ?_) (a' := ?_) #[true, true, true, true, true, true, true, true, false, false, false] rfl rfl (by kernel_rfl) (fun _ _ _ h => h) (Or.inl ⟨by rfl, ?_⟩) ?_ ?_
    rotate_left
    · intro w'
      go_simp
      with_reducible rfl
    rotate_left
    · simp only [Act.put, List.setIfInBounds_toArray, List.set_cons_zero, List.set_cons_succ, i64_w, i32_w]
      rfl
    refine pure_ (i := 8) (N := some 22) (v := ?_) (a' := ?_) #[true, true, true, true, true, true, true, true, true, false, false] rfl rfl (by kernel_rfl) (fun _ _ _ h => h) (Or.inl ⟨by rfl, ?_⟩) ?_ ?_
    rotate_left
    · intro w'
      go_simp
      with_reducible rfl
    rotate_left
    · simp only [Act.put, List.setIfInBounds_toArray, List.set_cons_zero, List.set_cons_succ, i64_w, i32_w]
      rfl
    refine pure_ (i := 9) (N := some 7) (v := ?_) (a' := ?_) #[true, true, true, true, true, true, true, true, true, true, false] rfl rfl (by kernel_rfl) (fun _ _ _ h => h) (Or.inl ⟨by rfl, ?_⟩) ?_ ?_
    rotate_left
    · intro w'
      go_simp
      with_reducible rfl
    rotate_left
    · simp only [Act.put, List.setIfInBounds_toArray, List.set_cons_zero, List.set_cons_succ, i64_w, i32_w]
      rfl
    refine pure_ (i := 10) (N := some 8) (v := ?_) (a' := ?_) #[true, true, true, true, true, true, true, true, true, true, true] rfl rfl (by kernel_rfl) (fun _ _ _ h => h) (Or.inl ⟨by rfl, ?_⟩) ?_ ?_
    rotate_left
    · intro w'
      go_simp
      with_reducible rfl
    rotate_left
    · simp only [Act.put, List.setIfInBounds_toArray, List.set_cons_zero, List.set_cons_succ, i64_w, i32_w]
      rfl
    refine done_ (by kernel_rfl) ?_
    replace B0 := Aside0.mk hHeld.1
    replace B1 := Aside0.mk hHeld.2.1
    replace HB := Aside0.mk hHeld.2.2
    clear hHeld hb
    go_wp2_with fail
    refine start_ (n := 11) (S := fun w' => w'.heap[w.heap.size]? = some (.cells (cellsK .i8 l) 23 (0, 0)) ∧ w'.heap[w.heap.size + 1]? = some (.cells #[.int .i16 a, .int .i8 b] 52 (0, 0)) ∧ Below w.heap.size w w') (ds := []) #[false, false, false, false, false, false, false, false, false, false, false] (by kernel_rfl) rfl rfl ⟨(blk_below B0.out (below_drew (Below.refl _ _))), (blk_below B1.out (below_drew (Below.refl _ _))), (below_step HB.out (below_drew (Below.refl _ _)))⟩ (fun hHeld => ?_)
    refine pure_ (i := 4) (N := some 28) (v := ?_) (a' := ?_) #[false, false, false, false, true, false, false, false, false, false, false] rfl rfl (by kernel_rfl) (fun _ _ _ h => h) (Or.inl ⟨by rfl, ?_⟩) ?_ ?_
    rotate_left
    · intro w'
      go_simp
      with_reducible rfl
    rotate_left
    · simp only [Act.put, List.setIfInBounds_toArray, List.set_cons_zero, List.set_cons_succ, i64_w, i32_w]
      rfl
    refine take_ (i := 0) (N := some 24) (v := ?_) (a' := ?_) #[true, false, false, false, true, false, false, false, false, false, false] rfl rfl (by kernel_rfl) (fun _ _ _ h => h) (Or.inl ⟨by rfl, ?_⟩) hHeld ?_ ?_
    rotate_left
    · rintro w' ⟨s0, s1, s2⟩
      refine exec_load_row 23 (.tmp 3) ?_ w.heap.size ?_ _ _ _ _ s0 Tryd.underlying23 rfl HSZ.out
      · rfl
      · rfl
    rotate_left
    · simp only [Act.put, List.setIfInBounds_toArray, List.set_cons_zero, List.set_cons_succ, i64_w, i32_w]
      rfl
    refine take_ (i := 2) (N := some 26) (v := ?_) (a' := ?_) #[true, false, true, false, true, false, false, false, false, false, false] rfl rfl (by kernel_rfl) (fun _ _ _ h => h) (Or.inl ⟨by rfl, ?_⟩) hHeld ?_ ?_
    rotate_left
    · rintro w' ⟨s0, s1, s2⟩
      refine exec_load_row 52 (.tmp 4) ?_ (w.heap.size + 1) ?_ _ _ _ _ s1 Tryd.underlying52 rfl HSY.out
      · rfl
      · rfl
    rotate_left
    · simp only [Act.put, List.setIfInBounds_toArray, List.set_cons_zero, List.set_cons_succ, i64_w, i32_w]
      rfl
    refine one_ (i := 1) (N := some 25) #[true, true, true, false, true, false, false, false, false, false, false] rfl rfl (by kernel_rfl) (by decide) (fun K hK => ?_)
    refine goes_ Tryd.func16 (by kernel_rfl) rfl #[.agg (cellsK .i8 l)] (by rfl) rfl rfl (by simp only [List.map_toArray, List.map_cons, List.map_nil]; rfl) ?_
    with_reducible refine ((laws_toStrokes_calls l hl _)).mono ?_
    rintro e w3 ⟨rfl, hb⟩
    refine ⟨_, rfl, ?_⟩
    refine hK.out _ _ ⟨(blk_below hHeld.1 hb), (blk_below hHeld.2.1 hb), (below_step hHeld.2.2 hb)⟩ (fun hHeld => ?_)
    clear hK K
    refine norm_ (a' := ?_) ?_ ?_
    rotate_left
    · show Act.put _ (some 25) _ = _
      simp only [Act.put, List.setIfInBounds_toArray, List.set_cons_zero, List.set_cons_succ, i64_w, i32_w]
      rfl
    refine one_ (i := 3) (N := some 27) #[true, true, true, true, true, false, false, false, false, false, false] rfl rfl (by kernel_rfl) (by decide) (fun K hK => ?_)
    refine goes_ Tryd.func35 (by kernel_rfl) rfl #[.agg #[.int .i16 a, .int .i8 b]] (by rfl) rfl rfl (by simp only [List.map_toArray, List.map_cons, List.map_nil]; rfl) ?_
    with_reducible refine ((toChisel_calls a b _)).mono ?_
    rintro e w3 ⟨rfl, hb⟩
    refine ⟨_, rfl, ?_⟩
    refine hK.out _ _ ⟨(blk_below hHeld.1 hb), (blk_below hHeld.2.1 hb), (below_step hHeld.2.2 hb)⟩ (fun hHeld => ?_)
    clear hK K
    refine norm_ (a' := ?_) ?_ ?_
    rotate_left
    · show Act.put _ (some 27) _ = _
      simp only [Act.put, List.setIfInBounds_toArray, List.set_cons_zero, List.set_cons_succ, i64_w, i32_w]
      rfl
    refine one_ (i := 5) (N := some 29) #[true, true, true, true, true, true, false, false, false, false, false] rfl rfl (by kernel_rfl) (by decide) (fun K hK => ?_)
    refine goes_ Tryd.func36 (by kernel_rfl) rfl #[.agg (cellsK .i8 l), .agg #[.int .i16 a, .int .i8 b], .string s] (by rfl) rfl rfl (by simp only [List.map_toArray, List.map_cons, List.map_nil]; rfl) ?_
    with_reducible refine ((implTimeFor_calls l hl hw a b ha hb' s _ (HG.out.below hHeld.2.2))).mono ?_
    rintro e w3 ⟨rfl, hb⟩
    refine ⟨_, rfl, ?_⟩
    refine hK.out _ _ ⟨(blk_below hHeld.1 hb), (blk_below hHeld.2.1 hb), (below_step hHeld.2.2 hb)⟩ (fun hHeld => ?_)
    clear hK K
    refine norm_ (a' := ?_) ?_ ?_
    rotate_left
    · show Act.put _ (some 29) _ = _
      simp only [Act.put, List.setIfInBounds_toArray, List.set_cons_zero, List.set_cons_succ, i64_w, i32_w]
      rfl
    refine pure_ (i := 6) (N := some 23) (v := ?_) (a' := ?_) #[true, true, true, true, true, true, true, false, false, false, false] rfl rfl (by kernel_rfl) (fun _ _ _ h => h) (Or.inl ⟨by rfl, ?_⟩) ?_ ?_
    rotate_left
    · intro w'
      go_simp
      with_reducible rfl
    rotate_left
    · simp only [Act.put, List.setIfInBounds_toArray, List.set_cons_zero, List.set_cons_succ, i64_w, i32_w]
      rfl
    refine pure_ (i := 7) (N := some 30) (v := ?_) (a' := ?_) #[true, true, true, true, true, true, true, true, false, false, false] rfl rfl (by kernel_rfl) (fun _ _ _ h => h) (Or.inl ⟨by rfl, ?_⟩) ?_ ?_
    rotate_left
    · intro w'
      go_simp
      with_reducible rfl
    rotate_left
    · simp only [Act.put, List.setIfInBounds_toArray, List.set_cons_zero, List.set_cons_succ, i64_w, i32_w]
      rfl
    refine pure_ (i := 8) (N := some 31) (v := ?_) (a' := ?_) #[true, true, true, true, true, true, true, true, true, false, false] rfl rfl (by kernel_rfl) (fun _ _ _ h => h) (Or.inl ⟨by rfl, ?_⟩) ?_ ?_
    rotate_left
    · intro w'
      go_simp
      with_reducible rfl
    rotate_left
    · simp only [Act.put, List.setIfInBounds_toArray, List.set_cons_zero, List.set_cons_succ, i64_w, i32_w]
      rfl
    refine pure_ (i := 9) (N := some 9) (v := ?_) (a' := ?_) #[true, true, true, true, true, true, true, true, true, true, false] rfl rfl (by kernel_rfl) (fun _ _ _ h => h) (Or.inl ⟨by rfl, ?_⟩) ?_ ?_
    rotate_left
    · intro w'
      go_simp
      with_reducible rfl
    rotate_left
    · simp only [Act.put, List.setIfInBounds_toArray, List.set_cons_zero, List.set_cons_succ, i64_w, i32_w]
      rfl
    refine pure_ (i := 10) (N := some 10) (v := ?_) (a' := ?_) #[true, true, true, true, true, true, true, true, true, true, true] rfl rfl (by kernel_rfl) (fun _ _ _ h => h) (Or.inl ⟨by rfl, ?_⟩) ?_ ?_
    rotate_left
    · intro w'
      go_simp
      with_reducible rfl
    rotate_left
    · simp only [Act.put, List.setIfInBounds_toArray, List.set_cons_zero, List.set_cons_succ, i64_w, i32_w]
      rfl
    refine done_ (by kernel_rfl) ?_
    replace HB := Aside0.mk hHeld.2.2
    clear hHeld hb B0 B1
    generalize (tfC l a b s).1 = x
    generalize (tfC l a b s).2 = y
    go_wp2
    go_ret
    exact ⟨rfl, HB.out⟩
  · have hs1 : decide ((s.size : Int) > 1048576) = true := by simp; omega
    have hs2 : decide ((1048576 : Int) < s.size) = true := by simp; omega
    clear hs
    go_wp2
    go_ret
    exact ⟨rfl, HB.out⟩
end Go.Proofs.YthdoeefaibeodaaDoor.Ext
