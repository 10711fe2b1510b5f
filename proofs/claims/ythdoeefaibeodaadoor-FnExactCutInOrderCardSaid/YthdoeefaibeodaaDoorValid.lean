/- What is valid: strokes, prices, chisels and sheets, in the program and in the reference. -/
import Derived.Test.YthdoeefaibeodaaDoorArr
import Derived.Test.YthdoeefaibeodaaDoorIdx
namespace Go.Proofs.YthdoeefaibeodaaDoor.Ext
open Go.RowKit Go.Proofs.YthdoeefaibeodaaDoorW.PrintWords Go.Proofs.YthdoeefaibeodaaDoorW.PrintLast Go.Proofs.YthdoeefaibeodaaDoorW.PrintMore
set_option linter.unusedVariables false
set_option linter.unusedSimpArgs false


theorem bcell' {W w1 : World} (hb : Below W.heap.size W w1) : (∀ b o, b < W.heap.size → w1.cell? ⟨b, o, none⟩ = W.cell? ⟨b, o, none⟩) := fun b o h => hb.cell (p := ⟨b, o, none⟩) h
set_option maxHeartbeats 400000 in
theorem in_calls (a b c : Int) (w : World) :
    Calls Tryd.prog 80 #[.int .i64 a, .int .i64 b, .int .i64 c] w fun e w' => e = .returned (.bool (inB a b c)) ∧ w = w' := by
  unfold inB
  by_cases h : b ≤ a
  · have h1 : decide (b ≤ a) = true := by simpa using h
    go_enter Tryd.func80, Tryd.ntmps80
    go_wp2
    go_ret
    exact ⟨by simp [h], rfl⟩
  · have h1 : decide (b ≤ a) = false := by simpa using h
    go_enter Tryd.func80, Tryd.ntmps80
    go_wp2
    go_ret
    exact ⟨by simp [h], rfl⟩

/-- Strokes are valid. -/
def strokesB (l : List Int) : Bool := l.all fun n => inB n 1 30
set_option maxHeartbeats 1000000 in
theorem l05Strokes_calls (g : Nat) (l : List Int) (hl : l.length = 26) (hw : ∀ y ∈ l, -128 ≤ y ∧ y ≤ 127) (w : World) (hb : w.heap[g]? = some (.cells (cellsK .i8 l) 25 (0, 0))) :
    Calls Tryd.prog 51 #[.pointer (some ⟨g, 0, none⟩)] w fun e w' => e = .returned (.bool (strokesB l)) ∧ w = w' := by
  have HB := Aside0.mk hb
  have HL := Aside0.mk hl
  clear hb hl
  go_enter Tryd.func51, Tryd.ntmps51
  go_wp2
  go_loop [3] (fun i => ∃ n : Nat, n ≤ 26 ∧ i = .int .i64 n ∧ Aside0 ((l.take n).all (fun n => inB n 1 30) = true)) (fun i => 26 - (intOf i).toNat)
  case atStart => exact ⟨0, by omega, rfl, ⟨by simp⟩⟩
  case round =>
    obtain ⟨n, hn, rfl, HA⟩ := hrel
    by_cases hlt : n < 26
    · have hltz : (n : Int) < 26 := by omega
      have hc : w.cell? ⟨g, n, none⟩ = some (.int .i8 (rd l n)) := cellsK_cell HB.out n (by have := HL.out; omega)
      have hbd := hw _ (rd_mem' l n (by have := HL.out; omega))
      have HS := Aside0.mk (all_snoc' (fun n => inB n 1 30) l n (by have := HL.out; omega))
      have HF := Aside0.mk (all_take_false (fun n => inB n 1 30) l n (by have := HL.out; omega))
      obtain ⟨hb1, hb2⟩ := hbd
      generalize rd l n = y at hc hb1 hb2 HS HF
      go_wp2_with fail
      refine (in_calls _ _ _ _).mono ?_
      rintro e w' ⟨rfl, rfl⟩
      cases hy : inB y 1 30
      · have HY := Aside0.mk hy
        clear hy
        go_wp2_with fail
        go_ret
        exact ⟨by unfold strokesB; rw [HF.out HY.out]; rfl, rfl⟩
      · have HY := Aside0.mk hy
        clear hy
        go_wp2_with fail
        go_round
        case rel => exact ⟨n + 1, by omega, by go_num, ⟨by rw [HS.out, HA.out, HY.out]; rfl⟩⟩
        case measure => simp [intOf]; omega
    · have hltz : ¬ (n : Int) < 26 := by omega
      obtain rfl : n = 26 := by omega
      go_wp2
      go_ret
      have e : strokesB l = true := by
        have := HA.out
        rwa [List.take_of_length_le (by have := HL.out; omega)] at this
      exact ⟨by rw [e]; rfl, rfl⟩
theorem reads_of_block {k : IntKind} {g : Nat} {t : TypeId} {l : List Int} {w : World} (hl : l.length ≤ 9223372036854775807) (hb : w.heap[g]? = some (.cells (cellsK k l) t (0, 0))) : Kd.C (Kd.int k) w (some ⟨g, 0, none⟩) l.length l := by
  refine Kd.C_of_reads (enc := Value.int k) (d := (0 : Int)) (h1 := fun _ => rfl) ⟨rfl, hl, fun hp => ⟨_, rfl, fun j hj => ?_⟩⟩
  have := cellsK_cell hb j hj
  rw [add_plain]
  rw [this]
  simp [rd]
theorem pred_ValidStrokes (w : World) : Predi8 95 #[] (fun n => !inB (wrap64 n) 1 30) w := by
  intro W x hb
  go_enter Tryd.func95, Tryd.ntmps95
  go_wp2_with fail
  refine (within_calls _ _ _ _).mono ?_
  rintro e w' ⟨rfl, rfl⟩
  go_wp2_with fail
  go_ret
  exact ⟨rfl, hb⟩
theorem implValidStrokes_calls (l : List Int) (hl : l.length = 26) (hw : ∀ y ∈ l, -128 ≤ y ∧ y ≤ 127) (w : World) :
    Calls Tryd.prog 53 #[.agg (cellsK .i8 l)] w fun e w' => e = .returned (.bool (strokesB l)) ∧ Below w.heap.size w w' := by
  have e1 : strokesB l = !(l.any fun n => !inB (wrap64 n) 1 30) := by
    rw [Bool.eq_iff_iff]
    simp only [strokesB, List.all_eq_true, Bool.not_eq_true', List.any_eq_false, Bool.not_eq_false]
    constructor
    · intro h x hx
      have := hw x hx
      have hz : wrap64 x = x := by unfold wrap64; omega
      rw [hz]; simpa using h x hx
    · intro h x hx
      have := hw x hx
      have hz : wrap64 x = x := by unfold wrap64; omega
      have := h x hx
      rw [hz] at this; simpa using this
  go_enter Tryd.func53, Tryd.ntmps53
  go_wp2_with fail
  have hb := blk_new w (.cells (cellsK .i8 l) 25)
  have hr := reads_of_block (by omega) hb
  refine (containsFunc_i8_n _ _ _ (enters_of Tryd.func95 (by kernel_rfl) rfl) _ 26 26 l hl _ (pred_ValidStrokes _) hr).mono ?_
  rintro e w1 ⟨rfl, hb1⟩
  rw [show (l.any fun n => !inB (wrap64 n) 1 30) = !strokesB l by rw [e1]; simp]
  clear e1 hr
  cases hB : strokesB l
  all_goals
    have HBB := Aside0.mk hB
    clear hB
    go_wp2_with fail
    go_ret
    exact ⟨by rw [HBB.out]; rfl, below_step (below_alloc (Below.refl _ _) _) hb1⟩




/-- A chisel is valid. -/
def chiselB (h s : Int) : Bool := inB h 30 1000 && inB s 0 100
set_option maxHeartbeats 400000 in
theorem toChisel_calls (a b : Int) (w : World) :
    Calls Tryd.prog 35 #[.agg #[.int .i16 a, .int .i8 b]] w fun e w' => e = .returned (.agg #[.int .i16 a, .int .i8 b]) ∧ Below w.heap.size w w' := by
  go_enter Tryd.func35, Tryd.ntmps35
  go_wp2
  refine bodyPost_ret (v := .agg #[.int .i16 a, .int .i8 b]) (by simp [results, Tryd.results35, go_sem]) rfl ⟨rfl, ?_⟩
  exact (((Below.refl _ _).alloc (Nat.le_refl _) _).alloc (by simp) _).alloc (by simp; omega) _
set_option maxHeartbeats 400000 in
theorem l05Chisel_calls (g : Nat) (a b : Int) (w : World) (hb : w.heap[g]? = some (.cells #[.int .i16 a, .int .i8 b] 54 (0, 0))) (ha : -32768 ≤ a ∧ a ≤ 32767) (hbb : -128 ≤ b ∧ b ≤ 127) :
    Calls Tryd.prog 85 #[.pointer (some ⟨g, 0, none⟩)] w fun e w' => e = .returned (.bool (chiselB a b)) ∧ w = w' := by
  obtain ⟨ha1, ha2⟩ := ha
  obtain ⟨hb1, hb2⟩ := hbb
  have h0 : w.cell? ⟨g, 0, none⟩ = some (.int .i16 a) := (blk_cell hb 0).trans rfl
  have h1 : w.cell? ⟨g, 1, none⟩ = some (.int .i8 b) := (blk_cell hb 1).trans rfl
  clear hb
  unfold chiselB
  cases h : inB a 30 1000
  all_goals
    have H := Aside0.mk h
    clear h
    go_enter Tryd.func85, Tryd.ntmps85
    go_wp2_with fail
    refine (in_calls _ _ _ _).mono ?_
    rintro e w' ⟨rfl, rfl⟩
    rw [H.out]
    go_wp2_with fail
  · go_ret
    exact ⟨rfl, rfl⟩
  · refine (in_calls _ _ _ _).mono ?_
    rintro e w' ⟨rfl, rfl⟩
    go_wp2_with fail
    go_ret
    exact ⟨by simp, rfl⟩
theorem implValidChisel_calls (a b : Int) (w : World) (ha : -32768 ≤ a ∧ a ≤ 32767) (hbb : -128 ≤ b ∧ b ≤ 127) :
    Calls Tryd.prog 88 #[.agg #[.int .i16 a, .int .i8 b]] w fun e w' => e = .returned (.bool (chiselB a b)) ∧ Below w.heap.size w w' := by
  obtain ⟨ha1, ha2⟩ := ha
  obtain ⟨hb1, hb2⟩ := hbb
  unfold chiselB
  cases h : inB a 30 1000
  all_goals
    have H := Aside0.mk h
    clear h
    go_enter Tryd.func88, Tryd.ntmps88
    go_wp2_with fail
    refine (within_calls _ _ _ _).mono ?_
    rintro e w' ⟨rfl, rfl⟩
    rw [H.out]
    go_wp2_with fail
  · go_ret
    exact ⟨rfl, below_alloc (Below.refl _ _) _⟩
  · refine (within_calls _ _ _ _).mono ?_
    rintro e w' ⟨rfl, rfl⟩
    go_wp2_with fail
    go_ret
    exact ⟨by simp, below_alloc (Below.refl _ _) _⟩



end Go.Proofs.YthdoeefaibeodaaDoor.Ext
