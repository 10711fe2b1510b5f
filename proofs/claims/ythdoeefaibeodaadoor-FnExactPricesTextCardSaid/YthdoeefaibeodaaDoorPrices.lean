/- Prices: copies of them, and what is valid. -/
import Derived.Test.YthdoeefaibeodaaDoorValid
import Derived.Test.YthdoeefaibeodaaDoorExtClo
namespace Go.Proofs.YthdoeefaibeodaaDoor.Ext
open Go.RowKit Go.Proofs.YthdoeefaibeodaaDoorW.PrintWords Go.Proofs.YthdoeefaibeodaaDoorW.PrintLast Go.Proofs.YthdoeefaibeodaaDoorW.PrintMore
set_option linter.unusedVariables false
set_option linter.unusedSimpArgs false
theorem cellAt {w : World} {g : Nat} {t : TypeId} {k : IntKind} {l : List Int} {n : Nat} {x : Int} (h : w.heap[g]? = some (.cells (cellsK k l) t (0, 0))) (hn : n < l.length) (hx : rd l n = x) : w.cell? ⟨g, n, none⟩ = some (.int k x) := by
  rw [cellsK_cell h n hn, hx]
theorem reads_part {k : IntKind} {g : Nat} {t : TypeId} {l : List Int} {w : World} (hb : w.heap[g]? = some (.cells (cellsK k l) t (0, 0))) (n : Nat) (hn : n ≤ l.length) (hl : n ≤ 9223372036854775807) : Kd.C (Kd.int k) w (some ⟨g, 0, none⟩) (l.take n).length (l.take n) := by
  refine Kd.C_of_reads (enc := Value.int k) (d := (0 : Int)) (h1 := fun _ => rfl) ⟨rfl, by simp <;> omega, fun hp => ⟨_, rfl, fun j hj => ?_⟩⟩
  have hj' : j < n := by simp at hj; omega
  have := cellsK_cell hb j (by omega)
  rw [add_plain]
  rw [this]
  simp [rd, List.getElem?_take, hj']
theorem reads_new3 (W : World) (t : TypeId) (n : Nat) (hn : W.heap.size = n) (a b c : Int) : Kd.C (Kd.int .i16) (W.alloc (.cells #[.int .i16 a, .int .i16 b, .int .i16 c] t (0, 0))) (some ⟨n, 0, none⟩) 3 [a, b, c] := by
  subst hn
  have := reads_of_block (k := .i16) (l := [a, b, c]) (t := t) (by simp) (blk_new W (.cells #[.int .i16 a, .int .i16 b, .int .i16 c] t (0, 0)))
  simpa using this
theorem clone16_n (A : Option Addr) (n c : Nat) (l : List Int) (hn : l.length = n) (w : World) (hr : Kd.C (Kd.int .i16) w A l.length l) (hl : n ≤ 1048576) :
    Calls Tryd.prog 101 #[.slice A n c] w fun e w' => ∃ v0_ : Value, e = .returned v0_ ∧ Kd.R (Kd.int .i16) 28 w' w.heap.size (fun _ => True) v0_ l ∧ Below w.heap.size w w' := by
  subst hn
  exact clone16_calls A c l w hr hl
theorem split29 (L : List Int) (h : L.length = 29) : L.take 26 ++ [rd L 26, rd L 27, rd L 28] = L := by
  have e : L.drop 26 = [rd L 26, rd L 27, rd L 28] := by
    apply List.ext_getElem?
    intro i
    rcases i with _ | _ | _ | i
    · simp [rd, List.getElem?_drop, List.getElem?_eq_getElem (show 26 < L.length by omega)]
    · simp [rd, List.getElem?_drop, List.getElem?_eq_getElem (show 27 < L.length by omega)]
    · simp [rd, List.getElem?_drop, List.getElem?_eq_getElem (show 28 < L.length by omega)]
    · rw [List.getElem?_eq_none (by simp; omega), List.getElem?_eq_none (by simp)]
  rw [← e]; exact List.take_append_drop 26 L
set_option maxRecDepth 100000 in
set_option maxHeartbeats 2000000 in
theorem all_calls (L : List Int) (hL : L.length = 29) (w : World) :
    Calls Tryd.prog 60 #[.agg (cellsK .i16 L)] w fun e w' => ∃ v0_ : Value, e = .returned v0_ ∧ Kd.R (Kd.int .i16) 28 w' w.heap.size (fun _ => True) v0_ L ∧ Below w.heap.size w w' := by
  obtain ⟨a, ha⟩ : ∃ a, rd L (26 : Nat) = a := ⟨_, rfl⟩
  obtain ⟨b, hbb⟩ : ∃ b, rd L (27 : Nat) = b := ⟨_, rfl⟩
  obtain ⟨c, hc⟩ : ∃ c, rd L (28 : Nat) = c := ⟨_, rfl⟩
  have HS : L.take 26 ++ [a, b, c] = L := by rw [← ha, ← hbb, ← hc]; exact split29 L hL
  go_enter Tryd.func60, Tryd.ntmps60
  go_wp2_with fail
  refine start_ (n := 12) (S := fun w' => w'.heap[w.heap.size]? = some (.cells (cellsK .i16 L) 33 (0, 0)) ∧ w'.cell? ⟨w.heap.size, 26, none⟩ = some (.int .i16 a) ∧ w'.cell? ⟨w.heap.size, 27, none⟩ = some (.int .i16 b) ∧ w'.cell? ⟨w.heap.size, 28, none⟩ = some (.int .i16 c) ∧ Below w.heap.size w w') (ds := [10, 11]) #[false, false, false, false, false, false, false, false, false, false, false, false] (by kernel_rfl) rfl rfl ⟨(blk_below (blk_new w _) (below_drew (Below.refl _ _))), (cellAt (blk_below (blk_new w _) (below_drew (Below.refl _ _))) (by omega) ha), (cellAt (blk_below (blk_new w _) (below_drew (Below.refl _ _))) (by omega) hbb), (cellAt (blk_below (blk_new w _) (below_drew (Below.refl _ _))) (by omega) hc), (below_step (below_alloc (Below.refl _ _) _) (below_drew (Below.refl _ _)))⟩ (fun hHeld => ?_)
  refine pure_ (i := 0) (N := some 3) (v := ?_) (a' := ?_) #[true, false, false, false, false, false, false, false, false, false, false, false] rfl rfl (by kernel_rfl) (fun _ _ _ h => h) (Or.inl ⟨by rfl, ?_⟩) ?_ ?_
  rotate_left
  · intro w'
    go_simp
    with_reducible rfl
  rotate_left
  · simp only [Act.put, List.setIfInBounds_toArray, List.set_cons_zero, List.set_cons_succ, i64_w, i32_w]
    rfl
  refine pure_ (i := 1) (N := some 4) (v := ?_) (a' := ?_) #[true, true, false, false, false, false, false, false, false, false, false, false] rfl rfl (by kernel_rfl) (fun _ _ _ h => h) (Or.inl ⟨by rfl, ?_⟩) ?_ ?_
  rotate_left
  · intro w'
    go_simp
    with_reducible rfl
  rotate_left
  · simp only [Act.put, List.setIfInBounds_toArray, List.set_cons_zero, List.set_cons_succ, i64_w, i32_w]
    rfl
  refine pure_ (i := 3) (N := some 6) (v := ?_) (a' := ?_) #[true, true, false, true, false, false, false, false, false, false, false, false] rfl rfl (by kernel_rfl) (fun _ _ _ h => h) (Or.inl ⟨by rfl, ?_⟩) ?_ ?_
  rotate_left
  · intro w'
    go_simp
    with_reducible rfl
  rotate_left
  · simp only [Act.put, List.setIfInBounds_toArray, List.set_cons_zero, List.set_cons_succ, i64_w, i32_w]
    rfl
  refine pure_ (i := 5) (N := some 8) (v := ?_) (a' := ?_) #[true, true, false, true, false, true, false, false, false, false, false, false] rfl rfl (by kernel_rfl) (fun _ _ _ h => h) (Or.inl ⟨by rfl, ?_⟩) ?_ ?_
  rotate_left
  · intro w'
    go_simp
    with_reducible rfl
  rotate_left
  · simp only [Act.put, List.setIfInBounds_toArray, List.set_cons_zero, List.set_cons_succ, i64_w, i32_w]
    rfl
  refine pure_ (i := 7) (N := some 10) (v := ?_) (a' := ?_) #[true, true, false, true, false, true, false, true, false, false, false, false] rfl rfl (by kernel_rfl) (fun _ _ _ h => h) (Or.inl ⟨by rfl, ?_⟩) ?_ ?_
  rotate_left
  · intro w'
    go_simp
    with_reducible rfl
  rotate_left
  · simp only [Act.put, List.setIfInBounds_toArray, List.set_cons_zero, List.set_cons_succ, i64_w, i32_w]
    rfl
  refine take_ (i := 4) (N := some 7) (v := ?_) (a' := ?_) #[true, true, false, true, true, true, false, true, false, false, false, false] rfl rfl (by kernel_rfl) (fun _ _ _ h => h) (Or.inl ⟨by rfl, ?_⟩) hHeld ?_ ?_
  rotate_left
  · rintro w' ⟨s0, s1, s2, s3, s4⟩
    go_simp
    with_reducible rfl
  rotate_left
  · simp only [Act.put, List.setIfInBounds_toArray, List.set_cons_zero, List.set_cons_succ, i64_w, i32_w]
    rfl
  refine take_ (i := 6) (N := some 9) (v := ?_) (a' := ?_) #[true, true, false, true, true, true, true, true, false, false, false, false] rfl rfl (by kernel_rfl) (fun _ _ _ h => h) (Or.inl ⟨by rfl, ?_⟩) hHeld ?_ ?_
  rotate_left
  · rintro w' ⟨s0, s1, s2, s3, s4⟩
    go_simp
    with_reducible rfl
  rotate_left
  · simp only [Act.put, List.setIfInBounds_toArray, List.set_cons_zero, List.set_cons_succ, i64_w, i32_w]
    rfl
  refine take_ (i := 8) (N := some 11) (v := ?_) (a' := ?_) #[true, true, false, true, true, true, true, true, true, false, false, false] rfl rfl (by kernel_rfl) (fun _ _ _ h => h) (Or.inl ⟨by rfl, ?_⟩) hHeld ?_ ?_
  rotate_left
  · rintro w' ⟨s0, s1, s2, s3, s4⟩
    go_simp
    with_reducible rfl
  rotate_left
  · simp only [Act.put, List.setIfInBounds_toArray, List.set_cons_zero, List.set_cons_succ, i64_w, i32_w]
    rfl
  refine join_ (σ := Value × Value) 2 #[true, true, true, true, true, true, true, true, true, true, false, false] (fun s => [(5, s.1), (12, s.2)]) (fun s w' => (w'.heap[w.heap.size]? = some (.cells (cellsK .i16 L) 33 (0, 0)) ∧ w'.cell? ⟨w.heap.size, 26, none⟩ = some (.int .i16 a) ∧ w'.cell? ⟨w.heap.size, 27, none⟩ = some (.int .i16 b) ∧ w'.cell? ⟨w.heap.size, 28, none⟩ = some (.int .i16 c) ∧ Below w.heap.size w w') ∧ Kd.R (Kd.int .i16) 28 w' w.heap.size (fun _ => True) s.1 (L.take 26) ∧ ∃ A cc, s.2 = .slice A 3 cc ∧ Kd.C (Kd.int .i16) w' A 3 [a, b, c]) ?_ ?_
  rotate_left
  · intro hCont
    refine two_ (i := 2) (j := 9) (Ni := some 5) (Nj := some 12) #[true, true, true, true, true, true, true, true, true, false, false, false] #[true, true, false, true, true, true, true, true, true, true, false, false] rfl rfl rfl rfl (by kernel_rfl) (by decide) (by decide) (fun K hK => ?_) (fun K hK => ?_)
    · skip
      have hLow := hHeld.2.2.2.2
      refine goes_ Tryd.func101 (by kernel_rfl) rfl #[.slice (some ⟨w.heap.size, 0, none⟩) 26 26] (by rfl) rfl rfl (by simp only [List.map_toArray, List.map_cons, List.map_nil]; rfl) ?_
      with_reducible refine ((clone16_n _ 26 26 (L.take 26) (by simp; omega) _ (reads_part hHeld.1 26 (by omega) (by omega)) (by decide))).mono ?_
      rintro e w3 ⟨v5, rfl, ho, hb⟩
      refine ⟨_, rfl, ?_⟩
      refine hK.out _ _ ⟨(blk_below hHeld.1 hb), (cellAt (blk_below hHeld.1 hb) (by omega) ha), (cellAt (blk_below hHeld.1 hb) (by omega) hbb), (cellAt (blk_below hHeld.1 hb) (by omega) hc), (below_step hHeld.2.2.2.2 hb)⟩ (fun hHeld => ?_)
      clear hK K
      refine norm_ (a' := ?_) ?_ ?_
      rotate_left
      · show Act.put _ (some 5) _ = _
        simp only [Act.put, List.setIfInBounds_toArray, List.set_cons_zero, List.set_cons_succ, i64_w, i32_w]
        rfl
      refine one_ (i := 9) (N := some 12) #[true, true, true, true, true, true, true, true, true, true, false, false] rfl rfl (by kernel_rfl) (by decide) (fun K hK => ?_)
      refine value_ (w1 := ?_) (v := ?_) (by rfl) rfl ?_ ?_
      rotate_left 2
      · go_simp
        constructor
        · rfl
        · rfl
      refine hK.out _ _ ⟨(blk_alloc hHeld.1 _), (cellAt (blk_alloc hHeld.1 _) (by omega) ha), (cellAt (blk_alloc hHeld.1 _) (by omega) hbb), (cellAt (blk_alloc hHeld.1 _) (by omega) hc), (below_alloc hHeld.2.2.2.2 _)⟩ (fun hHeld => ?_)
      clear hK K
      refine norm_ (a' := ?_) ?_ ?_
      rotate_left
      · show Act.put _ (some 12) _ = _
        simp only [Act.put, List.setIfInBounds_toArray, List.set_cons_zero, List.set_cons_succ, i64_w, i32_w]
        rfl
      exact norm_ (by simp only [putAll, Act.put, List.setIfInBounds_toArray, List.set_cons_zero, List.set_cons_succ]) (hCont (v5, .slice (some ⟨w3.heap.size, 0, none⟩) 3 3) _ ⟨hHeld, Kd.R_alloc (Kd.R_lower ho (below_size hLow)) _, ⟨_, _, rfl, reads_new3 _ _ _ rfl a b c⟩⟩)
    · skip
      refine value_ (w1 := ?_) (v := ?_) (by rfl) rfl ?_ ?_
      rotate_left 2
      · go_simp
        constructor
        · rfl
        · rfl
      refine hK.out _ _ ⟨(blk_alloc hHeld.1 _), (cellAt (blk_alloc hHeld.1 _) (by omega) ha), (cellAt (blk_alloc hHeld.1 _) (by omega) hbb), (cellAt (blk_alloc hHeld.1 _) (by omega) hc), (below_alloc hHeld.2.2.2.2 _)⟩ (fun hHeld => ?_)
      clear hK K
      refine norm_ (a' := ?_) ?_ ?_
      rotate_left
      · show Act.put _ (some 12) _ = _
        simp only [Act.put, List.setIfInBounds_toArray, List.set_cons_zero, List.set_cons_succ, i64_w, i32_w]
        rfl
      refine one_ (i := 2) (N := some 5) #[true, true, true, true, true, true, true, true, true, true, false, false] rfl rfl (by kernel_rfl) (by decide) (fun K hK => ?_)
      have hLow := hHeld.2.2.2.2
      refine goes_ Tryd.func101 (by kernel_rfl) rfl #[.slice (some ⟨w.heap.size, 0, none⟩) 26 26] (by rfl) rfl rfl (by simp only [List.map_toArray, List.map_cons, List.map_nil]; rfl) ?_
      with_reducible refine ((clone16_n _ 26 26 (L.take 26) (by simp; omega) _ (reads_part hHeld.1 26 (by omega) (by omega)) (by decide))).mono ?_
      rintro e w3 ⟨v5, rfl, ho, hb⟩
      refine ⟨_, rfl, ?_⟩
      refine hK.out _ _ ⟨(blk_below hHeld.1 hb), (cellAt (blk_below hHeld.1 hb) (by omega) ha), (cellAt (blk_below hHeld.1 hb) (by omega) hbb), (cellAt (blk_below hHeld.1 hb) (by omega) hc), (below_step hHeld.2.2.2.2 hb)⟩ (fun hHeld => ?_)
      clear hK K
      refine norm_ (a' := ?_) ?_ ?_
      rotate_left
      · show Act.put _ (some 5) _ = _
        simp only [Act.put, List.setIfInBounds_toArray, List.set_cons_zero, List.set_cons_succ, i64_w, i32_w]
        rfl
      exact norm_ (by simp only [putAll, Act.put, List.setIfInBounds_toArray, List.set_cons_zero, List.set_cons_succ]) (hCont (v5, .slice (some ⟨w.heap.size + 1, 0, none⟩) 3 3) _ ⟨hHeld, Kd.R_lower ho (below_size hLow), ⟨_, _, rfl, Kd.C_below (Kd.C_drew (reads_new3 _ _ _ (by simp) a b c)) hb⟩⟩)
  rintro ⟨v5, v12⟩ w' ⟨hHeld, hO, A, cc, e12, hC⟩
  dsimp only at e12
  subst e12
  refine norm_ (a' := ?_) ?_ ?_
  rotate_left
  · simp only [putAll, Act.put, List.setIfInBounds_toArray, List.set_cons_zero, List.set_cons_succ]
    rfl
  refine last_ (i := 10) (N := some 13) #[true, true, true, true, true, true, true, true, true, true, true, false] rfl rfl (by kernel_rfl) (by decide) (fun K hK => ?_)
  refine Kd.R_append_rows_step (Kd.int .i16) (Rr := (Kd.int .i16).K w') (w0 := w) w.heap.size (by rfl) (.tmp 5) (.tmp 12) 83 28 (.int .i16 0) 2 rfl Tryd.underlying83 info_i16 rfl (by decide) (by omega) v5 (L.take 26) [a, b, c] A 3 cc (fun _ => True) (fun _ => False) rfl rfl hO hC (fun _ _ h => h) (fun _ h => h.elim) (fun _ _ => trivial) hHeld.2.2.2.2 (below_size hHeld.2.2.2.2) (by simp; omega) ?_
  intro v13 w3 ho3 hb3 hg3 hat3
  refine hK.out _ _ ?_
  clear hK K
  refine norm_ (a' := ?_) ?_ ?_
  rotate_left
  · show Act.put _ (some 13) _ = _
    simp only [Act.put, List.setIfInBounds_toArray, List.set_cons_zero, List.set_cons_succ, i64_w, i32_w]
    rfl
  refine pure_ (i := 11) (N := some 2) (v := ?_) (a' := ?_) #[true, true, true, true, true, true, true, true, true, true, true, true] rfl rfl (by kernel_rfl) (fun _ _ _ h => h) (Or.inl ⟨by rfl, ?_⟩) ?_ ?_
  rotate_left
  · intro w'
    go_simp
    with_reducible rfl
  rotate_left
  · simp only [Act.put, List.setIfInBounds_toArray, List.set_cons_zero, List.set_cons_succ, i64_w, i32_w]
    rfl
  refine done_ (by kernel_rfl) ?_
  go_wp2_with fail
  go_ret
  exact ⟨_, rfl, by rw [HS] at ho3; exact ho3, hb3⟩
/-- Prices are valid. -/
def pricesB (l : List Int) : Bool := l.all fun n => inB n 0 1000
theorem pred_ValidPrices (w : World) : Predi16 100 #[] (fun n => !inB (wrap64 n) 0 1000) w := by
  intro W x hb
  go_enter Tryd.func100, Tryd.ntmps100
  go_wp2_with fail
  refine (within_calls _ _ _ _).mono ?_
  rintro e w' ⟨rfl, rfl⟩
  go_wp2_with fail
  go_ret
  exact ⟨rfl, hb⟩
theorem info_Prices : (Tryd.prog.info? 33).map (·.size) = some 29 := by kernel_rfl
theorem info_lPrices : (Tryd.prog.info? 31).map (·.size) = some 29 := by kernel_rfl
set_option maxHeartbeats 1000000 in
theorem implValidPrices_calls (l : List Int) (hl : l.length = 29) (hw : ∀ y ∈ l, -32768 ≤ y ∧ y ≤ 32767) (w : World) :
    Calls Tryd.prog 58 #[.agg (cellsK .i16 l)] w fun e w' => e = .returned (.bool (pricesB l)) ∧ Below w.heap.size w w' := by
  have e1 : pricesB l = !(l.any fun n => !inB (wrap64 n) 0 1000) := by
    rw [Bool.eq_iff_iff]
    simp only [pricesB, List.all_eq_true, Bool.not_eq_true', List.any_eq_false, Bool.not_eq_false]
    constructor
    · intro h x hx
      have := hw x hx
      have hz : wrap64 x = x := by unfold wrap64; omega
      rw [hz]; simpa using h x hx
    · intro h x hx
      have := hw x hx
      have hz : wrap64 x = x := by unfold wrap64; omega
      have := h x hx
      rw [hz] at this; simpa using this
  have HSZ := Aside0.mk (show (Tryd.prog.info? 33).map (·.size) = some (cellsK .i16 l).size by rw [cellsK_size, hl]; exact info_Prices)
  have HL := Aside0.mk hl
  have HE := Aside0.mk e1
  have HB := Aside0.mk (below_alloc (Below.refl w.heap.size w) (.cells (cellsK .i16 l) 33))
  clear hl e1 hw
  go_enter Tryd.func58, Tryd.ntmps58
  go_wp2_with (first | ((with_reducible refine gate_dst (N := 3) rfl ?_); refine wpList_load_row rfl 33 (.tmp 1) rfl w.heap.size rfl _ _ _ _ (blk_new w _) Tryd.underlying33 rfl HSZ.out ?_) | fail)
  refine (all_calls l HL.out _).mono ?_
  rintro e w1 ⟨v0, rfl, hr, hb⟩
  obtain ⟨A, c, rfl, _, hC⟩ := Kd.R_reads hr
  have HC := Aside0.mk hC
  have HB := Aside0.mk (below_step HB.out hb)
  clear hr hb hC
  go_wp2_with fail
  refine (containsFunc_i16_n _ _ _ (enters_of Tryd.func100 (by kernel_rfl) rfl) _ l.length _ l rfl _ (pred_ValidPrices _) HC.out).mono ?_
  rintro e w2 ⟨rfl, hb2⟩
  have HB2 := Aside0.mk (below_step HB.out hb2)
  clear hb2
  rw [show (l.any fun n => !inB (wrap64 n) 0 1000) = !pricesB l by rw [HE.out]; simp]
  cases hB : pricesB l
  all_goals
    have HBB := Aside0.mk hB
    clear hB
    go_wp2_with fail
    go_ret
    exact ⟨by rw [HBB.out]; rfl, HB2.out⟩
set_option maxHeartbeats 1000000 in
theorem l06Prices_calls (g : Nat) (l : List Int) (hl : l.length = 29) (hw : ∀ y ∈ l, -32768 ≤ y ∧ y ≤ 32767) (w : World) (hb : w.heap[g]? = some (.cells (cellsK .i16 l) 33 (0, 0))) :
    Calls Tryd.prog 55 #[.pointer (some ⟨g, 0, none⟩)] w fun e w' => e = .returned (.bool (pricesB l)) ∧ w = w' := by
  have HB := Aside0.mk hb
  have HL := Aside0.mk hl
  have HW := Aside0.mk hw
  clear hb hl hw
  go_enter Tryd.func55, Tryd.ntmps55
  go_wp2
  go_loop [3] (fun i => ∃ n : Nat, n ≤ 26 ∧ i = .int .i64 n ∧ Aside0 ((l.take n).all (fun n => inB n 0 1000) = true)) (fun i => 26 - (intOf i).toNat)
  case atStart => exact ⟨0, by omega, rfl, ⟨by simp⟩⟩
  case round =>
    obtain ⟨n, hn, rfl, HA⟩ := hrel
    by_cases hlt : n < 26
    · have hltz : (n : Int) < 26 := by omega
      have hc : w.cell? ⟨g, n, none⟩ = some (.int .i16 (rd l n)) := cellsK_cell HB.out n (by have := HL.out; omega)
      have hbd := HW.out _ (rd_mem' l n (by have := HL.out; omega))
      have HS := Aside0.mk (all_snoc' (fun n => inB n 0 1000) l n (by have := HL.out; omega))
      have HF := Aside0.mk (all_take_false (fun n => inB n 0 1000) l n (by have := HL.out; omega))
      obtain ⟨hb1, hb2⟩ := hbd
      generalize rd l n = y at hc hb1 hb2 HS HF
      go_wp2_with fail
      refine (in_calls _ _ _ _).mono ?_
      rintro e w' ⟨rfl, rfl⟩
      cases hy : inB y 0 1000
      · have HY := Aside0.mk hy
        clear hy
        go_wp2_with fail
        go_ret
        exact ⟨by unfold pricesB; rw [HF.out HY.out]; rfl, rfl⟩
      · have HY := Aside0.mk hy
        clear hy
        go_wp2_with fail
        go_round
        case rel => exact ⟨n + 1, by omega, by go_num, ⟨by rw [HS.out, HA.out, HY.out]; rfl⟩⟩
        case measure => simp [intOf]; omega
    · have hltz : ¬ (n : Int) < 26 := by omega
      obtain rfl : n = 26 := by omega
      have ha := cellAt (n := 26) HB.out (by have := HL.out; omega) rfl
      have hbb := cellAt (n := 27) HB.out (by have := HL.out; omega) rfl
      have hc := cellAt (n := 28) HB.out (by have := HL.out; omega) rfl
      have S0 := Aside0.mk (all_snoc' (fun n => inB n 0 1000) l 26 (by have := HL.out; omega))
      have S1 := Aside0.mk (all_snoc' (fun n => inB n 0 1000) l 27 (by have := HL.out; omega))
      have S2 := Aside0.mk (all_snoc' (fun n => inB n 0 1000) l 28 (by have := HL.out; omega))
      have F0 := Aside0.mk (all_take_false (fun n => inB n 0 1000) l 26 (by have := HL.out; omega))
      have F1 := Aside0.mk (all_take_false (fun n => inB n 0 1000) l 27 (by have := HL.out; omega))
      have F2 := Aside0.mk (all_take_false (fun n => inB n 0 1000) l 28 (by have := HL.out; omega))
      have w0 := HW.out _ (rd_mem' l 26 (by have := HL.out; omega))
      have w1 := HW.out _ (rd_mem' l 27 (by have := HL.out; omega))
      have w2 := HW.out _ (rd_mem' l 28 (by have := HL.out; omega))
      generalize rd l (26 : Nat) = y0 at ha S0 F0 w0
      generalize rd l (27 : Nat) = y1 at hbb S1 F1 w1
      generalize rd l (28 : Nat) = y2 at hc S2 F2 w2
      obtain ⟨w01, w02⟩ := w0
      obtain ⟨w11, w12⟩ := w1
      obtain ⟨w21, w22⟩ := w2
      go_wp2_with fail
      refine (in_calls _ _ _ _).mono ?_
      rintro e w' ⟨rfl, rfl⟩
      cases hy0 : inB y0 0 1000
      · have HY := Aside0.mk hy0
        clear hy0
        go_wp2_with fail
        go_ret
        exact ⟨by unfold pricesB; rw [F0.out HY.out]; rfl, rfl⟩
      · have HY0 := Aside0.mk hy0
        clear hy0
        go_wp2_with fail
        refine (in_calls _ _ _ _).mono ?_
        rintro e w' ⟨rfl, rfl⟩
        cases hy1 : inB y1 0 1000
        · have HY := Aside0.mk hy1
          clear hy1
          go_wp2_with fail
          go_ret
          exact ⟨by unfold pricesB; rw [F1.out HY.out]; rfl, rfl⟩
        · have HY1 := Aside0.mk hy1
          clear hy1
          go_wp2_with fail
          refine (in_calls _ _ _ _).mono ?_
          rintro e w' ⟨rfl, rfl⟩
          have e : pricesB l = inB y2 0 1000 := by
            have h3 : (l.take 29).all (fun n => inB n 0 1000) = ((l.take 28).all (fun n => inB n 0 1000) && inB y2 0 1000) := S2.out
            have h2 : (l.take 28).all (fun n => inB n 0 1000) = ((l.take 27).all (fun n => inB n 0 1000) && inB y1 0 1000) := S1.out
            have h1 : (l.take 27).all (fun n => inB n 0 1000) = ((l.take 26).all (fun n => inB n 0 1000) && inB y0 0 1000) := S0.out
            have h4 := HA.out
            rw [h2, h1, HY0.out, HY1.out, h4, List.take_of_length_le (by have := HL.out; omega)] at h3
            simpa [pricesB] using h3
          rw [← e]
          cases hp : pricesB l
          all_goals
            have HP := Aside0.mk hp
            clear hp e
            go_wp2_with fail
            go_ret
            exact ⟨by rw [HP.out]; rfl, rfl⟩
theorem set3 {w : World} {g : Nat} {t : TypeId} {L : List Int} {a b c : Int} (hL : L.length = 29) (HS : L.take 26 ++ [a, b, c] = L)
    (h : w.heap[g]? = some (.cells (cellsK .i16 (List.take 0 (List.replicate 29 (0 : Int)) ++ L.take 26 ++ List.drop (0 + (L.take 26).length) (List.replicate 29 (0 : Int)))) t (0, 0))) :
    (((w.setCell ⟨g, 26, none⟩ (.int .i16 a)).setCell ⟨g, 27, none⟩ (.int .i16 b)).setCell ⟨g, 28, none⟩ (.int .i16 c)).heap[g]? = some (.cells (cellsK .i16 L) t (0, 0)) := by
  have h3 := blk_set (blk_set (blk_set h 26 (.int .i16 a)) 27 (.int .i16 b)) 28 (.int .i16 c)
  rw [cellsK_set, cellsK_set, cellsK_set] at h3
  rw [h3]
  have hl : (L.take 26).length = 26 := by simp; omega
  have e : (((List.take 0 (List.replicate 29 (0 : Int)) ++ L.take 26 ++ List.drop (0 + (L.take 26).length) (List.replicate 29 (0 : Int))).set 26 a).set 27 b).set 28 c = L.take 26 ++ [a, b, c] := by
    rw [hl]
    generalize L.take 26 = l at hl
    simp only [List.take_zero, List.nil_append, Nat.zero_add]
    rw [show List.drop 26 (List.replicate 29 (0 : Int)) = [0, 0, 0] by rfl]
    rw [List.set_append_right _ _ (by omega), List.set_append_right _ _ (by omega), List.set_append_right _ _ (by omega), hl]
    rfl
  rw [e, HS]
set_option maxRecDepth 100000 in
set_option maxHeartbeats 2000000 in
theorem toPrices_calls (L : List Int) (hL : L.length = 29) (w : World) :
    Calls Tryd.prog 19 #[.agg (cellsK .i16 L)] w fun e w' => e = .returned (.agg (cellsK .i16 L)) ∧ Below w.heap.size w w' := by
  obtain ⟨a, ha⟩ : ∃ a, rd L (26 : Nat) = a := ⟨_, rfl⟩
  obtain ⟨b, hbb⟩ : ∃ b, rd L (27 : Nat) = b := ⟨_, rfl⟩
  obtain ⟨c, hc⟩ : ∃ c, rd L (28 : Nat) = c := ⟨_, rfl⟩
  have HS := Aside0.mk (show L.take 26 ++ [a, b, c] = L by rw [← ha, ← hbb, ← hc]; exact split29 L hL)
  have HL := Aside0.mk hL
  have HSZ := Aside0.mk (show (Tryd.prog.info? 33).map (·.size) = some (cellsK .i16 L).size by rw [cellsK_size, hL]; exact info_Prices)
  have Ha := Aside0.mk ha
  have Hb := Aside0.mk hbb
  have Hc := Aside0.mk hc
  have H0 := Aside0.mk (blk_new w (.cells (cellsK .i16 L) 31))
  have HB := Aside0.mk (below_alloc (Below.refl w.heap.size w) (.cells (cellsK .i16 L) 31))
  clear ha hbb hc hL
  go_enter Tryd.func19, Tryd.ntmps19
  go_wp2_with (first | ((with_reducible refine gate_dst (N := 5) rfl ?_); refine ev_load_at rfl 29 (.tmp 4) rfl w.heap.size 0 26 .i16 L rfl 31 _ (blk_alloc (blk_alloc H0.out _) _) Tryd.underlying29 rfl (by have := HL.out; omega) info_laws_toInt16A26 ?_) | fail)
  refine (laws_toInt16A26_calls _ (by have := HL.out; simp; omega) _).mono ?_
  rintro e w1 ⟨rfl, hb1⟩
  have HX := Aside0.mk (show L.take 26 ++ [a, b, c] = L from HS.out)
  replace HB := Aside0.mk (below_step (below_alloc (below_alloc HB.out _) _) hb1)
  have K0 := Aside0.mk (blk_below (blk_alloc (blk_alloc H0.out _) _) hb1)
  have K1 := Aside0.mk (blk_below (blk_alloc (blk_at (n := w.heap.size + 1) (by simp) _) _) hb1)
  have K2 := Aside0.mk (show w1.heap[w.heap.size + 2]? = some (.cells (cellsK .i16 (List.replicate 29 0)) 33 (0, 0)) from blk_below (blk_at (n := w.heap.size + 2) (by simp) _) hb1)
  clear H0 hb1
  go_wp2_with (first | ((with_reducible refine gate_store (t := 29) (p := 7) rfl ?_); refine ev_store_at rfl 29 (.tmp 7) (.tmp 6) rfl rfl (w.heap.size + 2) 0 .i16 (List.replicate 29 0) (L.take 26) rfl rfl _ K2.out (by have := HL.out; rw [show (L.take 26).length = 26 by simp; omega]; exact info_laws_toInt16A26) (by have := HL.out; simp; omega) ?_; intro w2 hb2 hk2 hbel2; have M0 := Aside0.mk ((hk2.2 w.heap.size (blk_lt K0.out) (by omega)).trans K0.out); have M1 := Aside0.mk ((hk2.2 (w.heap.size + 1) (blk_lt K1.out) (by omega)).trans K1.out); have M2 := Aside0.mk hb2; have MB := Aside0.mk (HB.out.trans (hbel2 _ (by omega))); clear hb2 hk2 hbel2 K0 K1 K2 HB; have c0 := cellAt M0.out (by have := HL.out; omega) Ha.out; have c1 := cellAt M0.out (by have := HL.out; omega) Hb.out; have c2 := cellAt M0.out (by have := HL.out; omega) Hc.out; have f0 := blk_frozen M2.out 26; have f1 := blk_frozen M2.out 27; have f2 := blk_frozen M2.out 28; have d0 := cellAt (n := 26) M2.out (by have := HL.out; simp; omega) rfl; have d1 := cellAt (n := 27) M2.out (by have := HL.out; simp; omega) rfl; have d2 := cellAt (n := 28) M2.out (by have := HL.out; simp; omega) rfl) | ((with_reducible refine gate_dst (N := 17) rfl ?_); refine wpList_load_row rfl 33 (.tmp 3) rfl (w.heap.size + 2) rfl _ _ _ _ (set3 HL.out HS.out M2.out) Tryd.underlying33 rfl HSZ.out ?_) | ((with_reducible refine gate_store (t := 33) (p := 2) rfl ?_); refine ev_store_row rfl 33 (.tmp 2) (.tmp 17) rfl rfl (w.heap.size + 1) (cellsK .i16 L) rfl rfl _ _ (blk_far (blk_far (blk_far M1.out (by simp <;> omega) _) (by simp <;> omega) _) (by simp <;> omega) _) HSZ.out (by rw [cellsK_size, HL.out]; rfl) (cellsK_one _ _) ?_; intro w3 hb3 hk3 hbel3))
  refine bodyPost_ret (results_cell_row rfl _ _ (w.heap.size + 1) _ (cellsK .i16 L) (0, 0) _ rfl hb3 Tryd.underlying33 rfl HSZ.out) rfl ⟨rfl, ?_⟩
  exact (((MB.out.setCell (by simp <;> omega) _).setCell (by simp <;> omega) _).setCell (by simp <;> omega) _).trans (hbel3 _ (by omega))
end Go.Proofs.YthdoeefaibeodaaDoor.Ext
