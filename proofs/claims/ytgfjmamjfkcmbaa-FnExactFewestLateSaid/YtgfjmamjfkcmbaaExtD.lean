/- impl.FewestLate by hand: its closure goes through all orders. -/
import Derived.Test.YtgfjmamjfkcmbaaExtClo
import Derived.Test.YtgfjmamjfkcmbaaPureLate
import Derived.Test.YtgfjmamjfkcmbaaWKept
import Derived.Laws.EntriesVeiled
import Derived.Test.YtgfjmamjfkcmbaaQ20
import Derived.Test.YtgfjmamjfkcmbaaQ19
namespace Go.Proofs.Ytgfjmamjfkcmbaa.Ext
open Go.RowKit Go.Proofs.YtgfjmamjfkcmbaaW.PrintWords Go.Proofs.YtgfjmamjfkcmbaaW.PrintLast Go.Proofs.YtgfjmamjfkcmbaaW.PrintMore Go.Proofs.Ytgfjmamjfkcmbaa.Q Go.Proofs.Ytgfjmamjfkcmbaa.Pure
set_option linter.unusedVariables false
set_option linter.unusedSimpArgs false

/-! ### What it computes -/
def lateN (t d o : List Int) : Int := ((lateL t d 0 o).length : Int)
def updF (t d o : List Int) (σ : List Int × Int) : List Int × Int := if σ.2 < 0 ∨ lateN t d o < σ.2 then (o, lateN t d o) else σ
def chooseM (t d : List Int) : Nat → List Int → List Int × Int → List Int × Int
  | 0, o, σ => updF t d o σ
  | r + 1, o, σ => (List.range t.length).foldl (fun σ (i : Nat) => if o.any (fun y => (i : Int) == y) then σ else chooseM t d r (o ++ [(i : Int)]) σ) σ
def stepF (t d : List Int) (r : Nat) (o : List Int) (σ : List Int × Int) (i : Nat) : List Int × Int := if o.any (fun y => (i : Int) == y) then σ else chooseM t d r (o ++ [(i : Int)]) σ
theorem chooseM_succ (t d : List Int) (r : Nat) (o : List Int) (σ : List Int × Int) : chooseM t d (r + 1) o σ = (List.range t.length).foldl (stepF t d r o) σ := rfl
theorem fold_succ {α : Type} (f : α → Nat → α) (s : α) (n : Nat) : (List.range (n + 1)).foldl f s = f ((List.range n).foldl f s) n := by rw [List.range_succ, List.foldl_append]; rfl

/-! ### The boxes -/
theorem cell_of {w : World} {g : Nat} {v : Value} {t : TypeId} (h : w.heap[g]? = some (.cells #[v] t (0, 0))) : w.cell? ⟨g, 0, none⟩ = some v := (blk_cell h 0).trans rfl
theorem blk_newAt {W : World} {n : Nat} (h : W.heap.size = n) (o : Obj) : (W.alloc o).heap[n]? = some o := by subst h; exact blk_new W o
theorem blk_lt' {w : World} {g : Nat} {o : Obj} (h : w.heap[g]? = some o) : g < w.heap.size := (Array.getElem?_eq_some_iff.1 h).1
/-- The boxes that the closure has been handed. -/
def lbF (gt gd gl gb gc : Nat) : Array Value := #[.pointer (some ⟨gt, 0, none⟩), .pointer (some ⟨gd, 0, none⟩), .pointer (some ⟨gl, 0, none⟩), .pointer (some ⟨gb, 0, none⟩), .pointer (some ⟨gc, 0, none⟩)]
def okF (gl gb : Nat) : Nat → Prop := fun k => k ≠ gl ∧ k ≠ gb
def wrF (gl gb : Nat) : Nat → Prop := fun k => k = gl ∨ k = gb
structure InvF (w0 : World) (B gt gd gl gb gc : Nat) (A0 : Option Addr) (c0 : Nat) (l0 : List Int) (A1 : Option Addr) (c1 : Nat) (l1 : List Int) (σ : List Int × Int) (w : World) : Prop where
  ht : w.heap[gt]? = some (.cells #[.slice A0 l0.length c0] 48 (0, 0))
  hd : w.heap[gd]? = some (.cells #[.slice A1 l1.length c1] 48 (0, 0))
  hl : w.heap[gl]? = some (.cells #[.int .i64 σ.2] 2 (0, 0))
  hb : ∃ vb, w.heap[gb]? = some (.cells #[vb] 48 (0, 0)) ∧ Kd.R (Kd.int .i64) 2 w B (okF gl gb) vb σ.1
  hc : w.heap[gc]? = some (.cells #[.func (.func 94) #[] (lbF gt gd gl gb gc)] 104 (0, 0))
  bel : Below B w0 w
section
variable {w0 w w1 w2 : World} {B gt gd gl gb gc : Nat} {A0 : Option Addr} {c0 : Nat} {l0 : List Int} {A1 : Option Addr} {c1 : Nat} {l1 : List Int} {σ : List Int × Int}
theorem InvF.fresh (h : InvF w0 B gt gd gl gb gc A0 c0 l0 A1 c1 l1 σ w) : ∀ k, w.heap.size ≤ k → okF gl gb k := by
  intro k hk
  obtain ⟨vb, h1, _⟩ := h.hb
  have a := blk_lt' h.hl
  have b := blk_lt' h1
  exact ⟨by omega, by omega⟩
theorem InvF.below (h : InvF w0 B gt gd gl gb gc A0 c0 l0 A1 c1 l1 σ w) (hb : Below w.heap.size w w1) (hB : B ≤ w.heap.size) : InvF w0 B gt gd gl gb gc A0 c0 l0 A1 c1 l1 σ w1 := by
  have mv : ∀ k, k < w.heap.size → w1.heap[k]? = w.heap[k]? := fun k h1 => hb.block k h1
  obtain ⟨vb, h1, h2⟩ := h.hb
  exact ⟨(mv _ (blk_lt' h.ht)).trans h.ht, (mv _ (blk_lt' h.hd)).trans h.hd, (mv _ (blk_lt' h.hl)).trans h.hl, ⟨vb, (mv _ (blk_lt' h1)).trans h1, Kd.R_below h2 hb⟩, (mv _ (blk_lt' h.hc)).trans h.hc, h.bel.trans (hb.mono hB)⟩
/-- The boxes lie apart, behind what was there. -/
structure DistF (B gt gd gl gb gc : Nat) : Prop where
  a : gt ≠ gl
  b : gt ≠ gb
  c : gd ≠ gl
  d : gd ≠ gb
  e : gc ≠ gl
  f : gc ≠ gb
  g : gl ≠ gb
  l : B ≤ gl
  m : B ≤ gb
theorem InvF.store (h : InvF w0 B gt gd gl gb gc A0 c0 l0 A1 c1 l1 σ w) (D : DistF B gt gd gl gb gc) {v : Value} {o : List Int} (N : Int) (hv : Kd.R (Kd.int .i64) 2 w B (okF gl gb) v o) :
    InvF w0 B gt gd gl gb gc A0 c0 l0 A1 c1 l1 (o, N) ((w.setCell ⟨gb, 0, none⟩ v).setCell ⟨gl, 0, none⟩ (.int .i64 N)) := by
  have mv : ∀ k, k ≠ gl → k ≠ gb → ((w.setCell ⟨gb, 0, none⟩ v).setCell ⟨gl, 0, none⟩ (.int .i64 N)).heap[k]? = w.heap[k]? := fun k h1 h2 => (Below.heap_setCell _ _ _ _ h1).trans (Below.heap_setCell _ _ _ _ h2)
  obtain ⟨vb, h1, h2⟩ := h.hb
  refine ⟨(mv _ D.a D.b).trans h.ht, (mv _ D.c D.d).trans h.hd, ?_, ⟨v, ?_, Kd.R_step hv (fun k ho _ => mv k ho.1 ho.2)⟩, (mv _ D.e D.f).trans h.hc, (h.bel.setCell D.m _).setCell D.l _⟩
  · exact blk_set ((Below.heap_setCell _ _ _ _ D.g).trans h.hl) 0 _
  · exact (Below.heap_setCell _ _ _ _ (Ne.symm D.g)).trans (blk_set h1 0 _)
theorem kept_store (v u : Value) : Kept w ((w.setCell ⟨gb, 0, none⟩ v).setCell ⟨gl, 0, none⟩ u) (wrF gl gb) :=
  ⟨by simp [World.setCell], fun k _ hn => (Below.heap_setCell _ _ _ _ (fun e => hn (Or.inl e))).trans (Below.heap_setCell _ _ _ _ (fun e => hn (Or.inr e)))⟩
theorem R_kept {v : Value} {l : List Int} (h : Kd.R (Kd.int .i64) 2 w B (okF gl gb) v l) (hk : Kept w w1 (wrF gl gb)) : Kd.R (Kd.int .i64) 2 w1 B (okF gl gb) v l :=
  Kd.R_step h (fun k ho hl => hk.2 k hl (fun e => e.elim ho.1 ho.2))
/-- A row made since w is one of B's, and no box. -/
theorem R_fresh {v : Value} {l : List Int} (h : Kd.R (Kd.int .i64) 2 w1 w.heap.size (fun _ => True) v l) (hB : B ≤ w.heap.size) (hf : ∀ k, w.heap.size ≤ k → okF gl gb k) : Kd.R (Kd.int .i64) 2 w1 B (okF gl gb) v l :=
  Kd.R_lower (Kd.R_mono (Kd.R_bound h) (fun k hk => hf k hk.2.1)) hB
theorem kept_trans (h : Kept w w1 (wrF gl gb)) (k : Kept w1 w2 (wrF gl gb)) : Kept w w2 (wrF gl gb) := h.then_ k (fun _ h => Or.inl h)
theorem kept_below (hb : Below w.heap.size w w1) : Kept w w1 (wrF gl gb) := Kept.of_below hb _
theorem cellB {v : Value} {t : TypeId} {g : Nat} (h : w.heap[g]? = some (.cells #[v] t (0, 0))) (hb : Below w.heap.size w w1) : w1.cell? ⟨g, 0, none⟩ = some v := cell_of ((hb.block g (blk_lt' h)).trans h)
end
theorem reads_new1 (W : World) (t : TypeId) (n : Nat) (hn : W.heap.size = n) (a : Int) : Kd.C (Kd.int .i64) (W.alloc (.cells #[.int .i64 a] t (0, 0))) (some ⟨n, 0, none⟩) 1 [a] := by
  subst hn
  refine Kd.C_of_reads (enc := Value.int .i64) (d := (0 : Int)) (h1 := fun _ => rfl) ⟨rfl, by simp, fun hp => ⟨_, rfl, fun j hj => ?_⟩⟩
  obtain rfl : j = 0 := by simpa using hj
  rw [add_plain]
  exact (blk_cell (blk_new W _) 0).trans rfl
theorem inds_snoc {o : List Int} {n i : Nat} (h : inds o n) (hi : i < n) : inds (o ++ [(i : Int)]) n := by
  intro x hx
  rcases List.mem_append.1 hx with h1 | h1
  · exact h x h1
  · obtain rfl := List.mem_singleton.1 h1
    omega

set_option maxRecDepth 100000 in
set_option maxHeartbeats 4000000 in
theorem choose_calls (w0 : World) (gt gd gl gb gc : Nat) (A0 : Option Addr) (c0 : Nat) (l0 : List Int) (A1 : Option Addr) (c1 : Nat) (l1 : List Int)
    (HR0 : Aside0 (Kd.C (Kd.int .i64) w0 A0 l0.length l0)) (hc0 : Aside0 (l0.length ≤ c0)) (HR1 : Aside0 (Kd.C (Kd.int .i64) w0 A1 l1.length l1)) (hc1 : Aside0 (l1.length ≤ c1)) (HN : Aside0 (l0.length ≤ 7)) (HL : Aside0 (l0.length = l1.length))
    (D : Aside0 (DistF w0.heap.size gt gd gl gb gc)) : ∀ (r : Nat) (o : List Int) (A : Option Addr) (c : Nat) (σ : List Int × Int) (w : World), Aside0 (o.length + r = l0.length) → Aside0 (inds o l0.length) → Aside0 (o.length ≤ c) →
      Aside0 (InvF w0 w0.heap.size gt gd gl gb gc A0 c0 l0 A1 c1 l1 σ w) → Aside0 (Kd.R (Kd.int .i64) 2 w w0.heap.size (okF gl gb) (.slice A o.length c) o) →
      Calls Try.prog 94 #[.slice A o.length c, .pointer (some ⟨gt, 0, none⟩), .pointer (some ⟨gd, 0, none⟩), .pointer (some ⟨gl, 0, none⟩), .pointer (some ⟨gb, 0, none⟩), .pointer (some ⟨gc, 0, none⟩)] w
        fun e w' => e = .returned (.tuple #[]) ∧ InvF w0 w0.heap.size gt gd gl gb gc A0 c0 l0 A1 c1 l1 (chooseM l0 l1 r o σ) w' ∧ Kept w w' (wrF gl gb) := by
  intro r
  induction r with
  | zero =>
    intro o A c σ w HO HI HC HV HR
    have h1 : ((o.length : Int) == (l0.length : Int)) = true := by have := HO.out; rw [beq_iff_eq]; omega
    have ht := cell_of HV.out.ht
    have hd := cell_of HV.out.hd
    go_enter Try.func94, Try.ntmps94
    go_wp2_with fail
    refine (impl_late.calls (o.length + 1) A0 c0 l0 A1 c1 l1 A c o (lateL l0 l1 0 o) w (Kd.C_below HR0.out HV.out.bel) hc0.out (Kd.C_below HR1.out HV.out.bel) hc1.out (Kd.R_reads' HR.out).2.2 HC.out (impl_late_eq l0 l1 o (by have := HO.out; have := HN.out; omega) HI.out (by rw [← HL.out]; exact HI.out) (by omega))).mono ?_
    rintro e w2 ⟨v17, rfl, hr17, hb2⟩
    obtain ⟨A', c', rfl, _, _⟩ := Kd.R_reads hr17
    have HV2 := Aside0.mk (HV.out.below hb2 (below_size HV.out.bel))
    have HR2 := Aside0.mk (Kd.R_below HR.out hb2)
    have HK := Aside0.mk (kept_below (gl := gl) (gb := gb) hb2)
    clear hr17 hb2 ht hd
    go_wp2_with fail
    refine (size_calls A' _ c' _).mono ?_
    rintro e w3 ⟨rfl, rfl⟩
    have hcl := cell_of HV2.out.hl
    have hfl := blk_frozen HV2.out.hl 0
    obtain ⟨vb, hb_, _⟩ := HV2.out.hb
    have hcb := cell_of hb_
    have hfb := blk_frozen hb_ 0
    have hcl2 : (w2.setCell ⟨gb, 0, none⟩ (.slice A o.length c)).cell? ⟨gl, 0, none⟩ = some (.int .i64 σ.2) := cell_of ((Below.heap_setCell _ _ _ _ D.out.g).trans HV2.out.hl)
    have hfl2 : (w2.setCell ⟨gb, 0, none⟩ (.slice A o.length c)).frozen? ⟨gl, 0, none⟩ = false := blk_frozen ((Below.heap_setCell _ _ _ _ D.out.g).trans HV2.out.hl) 0
    clear hb_
    have HE := Aside0.mk (show chooseM l0 l1 0 o σ = if σ.2 < 0 ∨ ((lateL l0 l1 0 o).length : Int) < σ.2 then (o, ((lateL l0 l1 0 o).length : Int)) else σ from rfl)
    have HN' := Aside0.mk (show (lateL l0 l1 0 o).length ≤ 9223372036854775807 by have := lateL_len l0 l1 0 o; have := HO.out; have := HN.out; omega)
    generalize (lateL l0 l1 0 o).length = N at *
    obtain ⟨s, hs⟩ : ∃ s, σ.2 = s := ⟨_, rfl⟩
    rw [hs] at hcl hcl2 HE
    clear hs
    have hgb := Aside0.mk (D.out.g)
    by_cases c1 : s < 0
    · have d1 : decide (s < 0) = true := decide_eq_true c1
      clear c1
      go_wp2
      refine bodyPost_ret (results_none rfl _ _ _) rfl ?_
      rw [HE.out, if_pos (Or.inl (of_decide_eq_true d1))]
      exact ⟨rfl, HV2.out.store D.out _ HR2.out, kept_trans HK.out (kept_store _ _)⟩
    · have d1 : decide (s < 0) = false := decide_eq_false c1
      clear c1
      by_cases c2 : (N : Int) < s
      · have d2 : decide ((N : Int) < s) = true := decide_eq_true c2
        clear c2
        go_wp2
        refine bodyPost_ret (results_none rfl _ _ _) rfl ?_
        rw [HE.out, if_pos (Or.inr (of_decide_eq_true d2))]
        exact ⟨rfl, HV2.out.store D.out _ HR2.out, kept_trans HK.out (kept_store _ _)⟩
      · have d2 : decide ((N : Int) < s) = false := decide_eq_false c2
        clear c2
        go_wp2
        refine bodyPost_ret (results_none rfl _ _ _) rfl ?_
        rw [HE.out, if_neg (by rintro (h | h); exact absurd h (of_decide_eq_false d1); exact absurd h (of_decide_eq_false d2))]
        exact ⟨rfl, HV2.out, HK.out⟩
  | succ r ih =>
    intro o A c σ w HO HI HC HV HR
    have hl7 : l0.length ≤ 7 := HN.out
    have h1 : ((o.length : Int) == (l0.length : Int)) = false := by have := HO.out; rw [beq_eq_false_iff_ne]; omega
    have ht := cell_of HV.out.ht
    go_enter Try.func94, Try.ntmps94
    go_wp2_with fail
    refine (size_calls A0 _ c0 _).mono ?_
    rintro e w3 ⟨rfl, rfl⟩
    clear ht h1
    go_wp2_with fail
    go_loopg [8, 30] l0.length (fun gg _ s30 wr => ∃ i : Nat, i ≤ l0.length ∧ l0.length - i ≤ gg ∧ s30 = .int .i64 i ∧ Aside0 (InvF w0 w0.heap.size gt gd gl gb gc A0 c0 l0 A1 c1 l1 ((List.range i).foldl (stepF l0 l1 r o) σ) wr) ∧ Aside0 (Kept w wr (wrF gl gb)))
    case atStart => exact ⟨0, by omega, by omega, rfl, HV, ⟨Kept.refl _ _⟩⟩
    case round =>
      obtain ⟨i, hi, hg, rfl, HV1, HK⟩ := hrel
      by_cases hlt : i < l0.length
      · have hltz : (i : Int) < (l0.length : Int) := by omega
        have HR1' := Aside0.mk (R_kept HR.out HK.out)
        have HS := Aside0.mk (fold_succ (stepF l0 l1 r o) σ i)
        generalize (List.range i).foldl (stepF l0 l1 r o) σ = σi at HV1 HS
        have HCo := Aside0.mk (Kd.R_reads' HR1'.out).2.2
        go_wp2_with fail
        refine (contains_calls A c o i _ HCo.out).mono ?_
        rintro e w3 ⟨rfl, rfl⟩
        cases hq : (o.any fun y => (i : Int) == y)
        · have HQ := Aside0.mk hq
          clear hq
          replace HS : Aside0 ((List.range (i + 1)).foldl (stepF l0 l1 r o) σ = chooseM l0 l1 r (o ++ [(i : Int)]) σi) := ⟨by rw [HS.out]; unfold stepF; rw [HQ.out]; rfl⟩
          go_wp2_with fail
          refine start_ (n := 7) (S := fun w' => w'.cell? ⟨gc, 0, none⟩ = some (.func (.func 94) #[] (lbF gt gd gl gb gc)) ∧ Kd.C (Kd.int .i64) w' A o.length o ∧ Below wr.heap.size wr w') (ds := [6]) #[false, false, false, false, false, false, false] (by kernel_rfl) rfl rfl ⟨(cellB HV1.out.hc (below_drew (Below.refl _ _))), (Kd.C_below HCo.out (below_drew (Below.refl _ _))), (below_drew (Below.refl _ _))⟩ (fun hHeld => ?_)
          refine pure_ (i := 1) (N := some 38) (v := ?_) (a' := ?_) #[false, true, false, false, false, false, false] rfl rfl (by kernel_rfl) (fun _ _ _ h => h) (Or.inl ⟨by rfl, ?_⟩) ?_ ?_
          rotate_left
          · intro w'
            go_simp
            with_reducible rfl
          rotate_left
          · simp only [Act.put, List.setIfInBounds_toArray, List.set_cons_zero, List.set_cons_succ, i64_w, i32_w]
            rfl
          refine pure_ (i := 3) (N := some 40) (v := ?_) (a' := ?_) #[false, true, false, true, false, false, false] rfl rfl (by kernel_rfl) (fun _ _ _ h => h) (Or.inl ⟨by rfl, ?_⟩) ?_ ?_
          rotate_left
          · intro w'
            go_simp
            with_reducible rfl
          rotate_left
          · simp only [Act.put, List.setIfInBounds_toArray, List.set_cons_zero, List.set_cons_succ, i64_w, i32_w]
            rfl
          refine take_ (i := 0) (N := some 37) (v := ?_) (a' := ?_) #[true, true, false, true, false, false, false] rfl rfl (by kernel_rfl) (fun _ _ _ h => h) (Or.inl ⟨by rfl, ?_⟩) hHeld ?_ ?_
          rotate_left
          · rintro w' ⟨s0, s1, s2⟩
            go_simp
            with_reducible rfl
          rotate_left
          · simp only [Act.put, List.setIfInBounds_toArray, List.set_cons_zero, List.set_cons_succ, i64_w, i32_w]
            rfl
          refine join_ (σ := Value × Value) 2 #[true, true, true, true, true, false, false] (fun s => [(39, s.1), (41, s.2)]) (fun s w' => (w'.cell? ⟨gc, 0, none⟩ = some (.func (.func 94) #[] (lbF gt gd gl gb gc)) ∧ Kd.C (Kd.int .i64) w' A o.length o ∧ Below wr.heap.size wr w') ∧ Kd.R (Kd.int .i64) 2 w' wr.heap.size (fun _ => True) s.1 o ∧ ∃ A cc, s.2 = .slice A 1 cc ∧ Kd.C (Kd.int .i64) w' A 1 [(i : Int)]) ?_ ?_
          rotate_left
          · intro hCont
            refine two_ (i := 2) (j := 4) (Ni := some 39) (Nj := some 41) #[true, true, true, true, false, false, false] #[true, true, false, true, true, false, false] rfl rfl rfl rfl (by kernel_rfl) (by decide) (by decide) (fun K hK => ?_) (fun K hK => ?_)
            · skip
              have hLow := hHeld.2.2
              refine goes_ Try.func80 (by kernel_rfl) rfl #[.slice A o.length c] (by rfl) rfl rfl (by simp only [List.map_toArray, List.map_cons, List.map_nil]; rfl) ?_
              with_reducible refine ((clone_calls A c o _ hHeld.2.1 (by have := HN.out; have := HO.out; omega))).mono ?_
              rintro e w3 ⟨v39, rfl, ho, hb⟩
              refine ⟨_, rfl, ?_⟩
              refine hK.out _ _ ⟨(cellB HV1.out.hc (below_step hHeld.2.2 hb)), (Kd.C_below HCo.out (below_step hHeld.2.2 hb)), (below_step hHeld.2.2 hb)⟩ (fun hHeld => ?_)
              clear hK K
              refine norm_ (a' := ?_) ?_ ?_
              rotate_left
              · show Act.put _ (some 39) _ = _
                simp only [Act.put, List.setIfInBounds_toArray, List.set_cons_zero, List.set_cons_succ, i64_w, i32_w]
                rfl
              refine one_ (i := 4) (N := some 41) #[true, true, true, true, true, false, false] rfl rfl (by kernel_rfl) (by decide) (fun K hK => ?_)
              refine value_ (w1 := ?_) (v := ?_) (by rfl) rfl ?_ ?_
              rotate_left 2
              · go_simp
                constructor
                · rfl
                · rfl
              refine hK.out _ _ ⟨(cellB HV1.out.hc (below_alloc hHeld.2.2 _)), (Kd.C_below HCo.out (below_alloc hHeld.2.2 _)), (below_alloc hHeld.2.2 _)⟩ (fun hHeld => ?_)
              clear hK K
              refine norm_ (a' := ?_) ?_ ?_
              rotate_left
              · show Act.put _ (some 41) _ = _
                simp only [Act.put, List.setIfInBounds_toArray, List.set_cons_zero, List.set_cons_succ, i64_w, i32_w]
                rfl
              exact norm_ (by simp only [putAll, Act.put, List.setIfInBounds_toArray, List.set_cons_zero, List.set_cons_succ]) (hCont (v39, .slice (some ⟨w3.heap.size, 0, none⟩) 1 1) _ ⟨hHeld, Kd.R_alloc (Kd.R_lower ho (below_size hLow)) _, ⟨_, _, rfl, reads_new1 _ _ _ rfl _⟩⟩)
            · skip
              refine value_ (w1 := ?_) (v := ?_) (by rfl) rfl ?_ ?_
              rotate_left 2
              · go_simp
                constructor
                · rfl
                · rfl
              refine hK.out _ _ ⟨(cellB HV1.out.hc (below_alloc hHeld.2.2 _)), (Kd.C_below HCo.out (below_alloc hHeld.2.2 _)), (below_alloc hHeld.2.2 _)⟩ (fun hHeld => ?_)
              clear hK K
              refine norm_ (a' := ?_) ?_ ?_
              rotate_left
              · show Act.put _ (some 41) _ = _
                simp only [Act.put, List.setIfInBounds_toArray, List.set_cons_zero, List.set_cons_succ, i64_w, i32_w]
                rfl
              refine one_ (i := 2) (N := some 39) #[true, true, true, true, true, false, false] rfl rfl (by kernel_rfl) (by decide) (fun K hK => ?_)
              have hLow := hHeld.2.2
              refine goes_ Try.func80 (by kernel_rfl) rfl #[.slice A o.length c] (by rfl) rfl rfl (by simp only [List.map_toArray, List.map_cons, List.map_nil]; rfl) ?_
              with_reducible refine ((clone_calls A c o _ hHeld.2.1 (by have := HN.out; have := HO.out; omega))).mono ?_
              rintro e w3 ⟨v39, rfl, ho, hb⟩
              refine ⟨_, rfl, ?_⟩
              refine hK.out _ _ ⟨(cellB HV1.out.hc (below_step hHeld.2.2 hb)), (Kd.C_below HCo.out (below_step hHeld.2.2 hb)), (below_step hHeld.2.2 hb)⟩ (fun hHeld => ?_)
              clear hK K
              refine norm_ (a' := ?_) ?_ ?_
              rotate_left
              · show Act.put _ (some 39) _ = _
                simp only [Act.put, List.setIfInBounds_toArray, List.set_cons_zero, List.set_cons_succ, i64_w, i32_w]
                rfl
              exact norm_ (by simp only [putAll, Act.put, List.setIfInBounds_toArray, List.set_cons_zero, List.set_cons_succ]) (hCont (v39, .slice (some ⟨wr.heap.size, 0, none⟩) 1 1) _ ⟨hHeld, Kd.R_lower ho (below_size hLow), ⟨_, _, rfl, Kd.C_below (Kd.C_drew (reads_new1 _ _ _ (by simp) _)) hb⟩⟩)
          rintro ⟨v39, v41⟩ w' ⟨hHeld, hO, A2, cc, e41, hC⟩
          dsimp only at e41
          subst e41
          refine norm_ (a' := ?_) ?_ ?_
          rotate_left
          · simp only [putAll, Act.put, List.setIfInBounds_toArray, List.set_cons_zero, List.set_cons_succ]
            rfl
          refine one_ (i := 5) (N := some 42) #[true, true, true, true, true, true, false] rfl rfl (by kernel_rfl) (by decide) (fun K hK => ?_)
          refine Kd.R_append_rows_step (Kd.int .i64) (Rr := (Kd.int .i64).K w') (w0 := wr) wr.heap.size (by rfl) (.tmp 39) (.tmp 41) 48 2 (.int .i64 0) 8 rfl Try.underlying48 info_i64 rfl (by decide) (by omega) v39 o [(i : Int)] A2 1 cc (fun _ => True) (fun _ => False) rfl rfl hO hC (fun _ _ h => h) (fun _ h => h.elim) (fun _ _ => trivial) hHeld.2.2 (below_size hHeld.2.2) (by have := HN.out; have := HO.out; omega) ?_
          intro v42 w4 ho4 hb4 hg4 hat4
          refine hK.out _ _ ⟨(cellB HV1.out.hc hb4), (Kd.C_below HCo.out hb4), hb4⟩ (fun hHeld => ?_)
          clear hK K
          refine norm_ (a' := ?_) ?_ ?_
          rotate_left
          · show Act.put _ (some 42) _ = _
            simp only [Act.put, List.setIfInBounds_toArray, List.set_cons_zero, List.set_cons_succ, i64_w, i32_w]
            rfl
          refine last_ (i := 6) (N := some 43) #[true, true, true, true, true, true, true] rfl rfl (by kernel_rfl) (by decide) (fun K hK => ?_)
          obtain ⟨A42, c42, rfl, hc42, hC42⟩ := Kd.R_reads ho4
          refine call_ 94 #[.slice A42 (o ++ [(i : Int)]).length c42, (.pointer (some ⟨gt, 0, none⟩)), (.pointer (some ⟨gd, 0, none⟩)), (.pointer (some ⟨gl, 0, none⟩)), (.pointer (some ⟨gb, 0, none⟩)), (.pointer (some ⟨gc, 0, none⟩))] (by rfl) rfl ?_ ?_
          · have he := enters_of Try.func94 (by kernel_rfl) rfl
            unfold execOp
            simp [resolve, Deferred.ofValue, invoke, Act.eval, lbF, he]
          refine (ih (o ++ [(i : Int)]) A42 c42 σi w4 ⟨by have := HO.out; simp; omega⟩ ⟨inds_snoc HI.out hlt⟩ ⟨hc42⟩ ⟨HV1.out.below hb4 (below_size HV1.out.bel)⟩ ⟨R_fresh ho4 (below_size HV1.out.bel) HV1.out.fresh⟩).mono ?_
          rintro e w5 ⟨rfl, HI5, HK5⟩
          refine ⟨_, rfl, ?_⟩
          refine hK.out _ _ ?_
          clear hK K
          refine norm_ (a' := ?_) ?_ ?_
          rotate_left
          · show Act.put _ (some 43) _ = _
            simp only [Act.put, List.setIfInBounds_toArray, List.set_cons_zero, List.set_cons_succ, i64_w, i32_w]
            rfl
          refine done_ (by kernel_rfl) ?_
          go_wp2_with fail
          go_roundg (l0.length - (i + 1))
          case measure => omega
          case rel => exact ⟨i + 1, by omega, by omega, by go_num, ⟨by rw [HS.out]; exact HI5⟩, ⟨kept_trans HK.out (kept_trans (kept_below hb4) HK5)⟩⟩
        · have HQ := Aside0.mk hq
          clear hq
          replace HS : Aside0 ((List.range (i + 1)).foldl (stepF l0 l1 r o) σ = σi) := ⟨by rw [HS.out]; unfold stepF; rw [HQ.out]; rfl⟩
          go_wp2_with fail
          go_roundg (l0.length - (i + 1))
          case measure => omega
          case rel => exact ⟨i + 1, by omega, by omega, by go_num, ⟨by rw [HS.out]; exact HV1.out⟩, HK⟩
      · have hltz : ¬ (i : Int) < (l0.length : Int) := by omega
        obtain rfl : i = l0.length := by omega
        go_wp2
        go_end0
        exact ⟨rfl, HV1.out, HK.out⟩
def fewC (t d : List Int) : List Int × Int × Int := if timesC (duesB t d) t 7 = 0 then ((chooseM t d t.length [] ([], -1)).1, (chooseM t d t.length [] ([], -1)).2, 0) else ([], 0, timesC (duesB t d) t 7)
def impl_FewestLate.f (l0 : List Int) (l1 : List Int) : Option (List Int × Int × Int) := some (fewC l0 l1)
set_option maxHeartbeats 2000000 in
theorem impl_FewestLate.calls (A0 : Option Addr) (c0 : Nat) (l0 : List Int) (A1 : Option Addr) (c1 : Nat) (l1 : List Int) (r1 : List Int) (r2 : Int) (r3 : Int) (w : World) (hr0 : Kd.C (Kd.int .i64) w A0 l0.length l0) (hc0 : l0.length ≤ c0) (hr1 : Kd.C (Kd.int .i64) w A1 l1.length l1) (hc1 : l1.length ≤ c1) (h : impl_FewestLate.f l0 l1 = some (r1, r2, r3)) :
    Calls Try.prog 45 #[.slice A0 l0.length c0, .slice A1 l1.length c1] w fun e w' => ∃ v0_ : Value, e = .returned (.tuple #[v0_, .int .i64 r2, .int .i64 r3]) ∧ Kd.R (Kd.int .i64) 2 w' w.heap.size (fun _ => True) v0_ r1 ∧ Below w.heap.size w w' := by
  have HR0 := Aside0.mk hr0
  have HC0 := Aside0.mk hc0
  have HR1 := Aside0.mk hr1
  have HC1 := Aside0.mk hc1
  clear hr0 hc0 hr1 hc1
  have h := Option.some.inj h
  have HD := Aside0.mk (impl_due_eq l0 l1 7)
  have HB := Aside0.mk (below_alloc (below_alloc (Below.refl w.heap.size w) (.cells #[.slice A0 l0.length c0] 48 (0, 0))) (.cells #[.slice A1 l1.length c1] 48 (0, 0)))
  have B0 := Aside0.mk (blk_alloc (blk_new w (.cells #[.slice A0 l0.length c0] 48 (0, 0))) (.cells #[.slice A1 l1.length c1] 48 (0, 0)))
  have B1 := Aside0.mk (blk_newAt (W := w.alloc (.cells #[.slice A0 l0.length c0] 48 (0, 0))) (n := w.heap.size + 1) (by simp) (.cells #[.slice A1 l1.length c1] 48 (0, 0)))
  unfold fewC at h
  by_cases hz : timesC (duesB l0 l1) l0 7 = 0
  · rw [if_pos hz] at h
    obtain ⟨_, hb7, hl7⟩ := timesC_zero hz
    rw [hz] at HD
    have HL7 := Aside0.mk (show l0.length ≤ 7 by omega)
    have HLL := Aside0.mk (duesB_len (timesC_zero hz).1)
    clear hz hb7 hl7
    injection h with h1 h
    injection h with h2 h3
    subst h3
    have H1 := Aside0.mk h1
    have H2 := Aside0.mk h2
    clear h1 h2
    go_enter Try.func45, Try.ntmps45
    go_wp2_with fail
    refine (impl_dueCode.calls A0 c0 l0 A1 c1 l1 7 0 _ (Kd.C_below HR0.out HB.out) HC0.out (Kd.C_below HR1.out HB.out) HC1.out HD.out).mono ?_
    rintro e w1 ⟨rfl, hb⟩
    replace B0 := Aside0.mk (blk_below B0.out hb)
    replace B1 := Aside0.mk (blk_below B1.out hb)
    replace HB := Aside0.mk (below_step HB.out hb)
    clear hb
    go_wp2_with (first | ((with_reducible refine gate_dst (N := 17) rfl ?_); refine Kd.R_lit (Kd.int .i64) _ 2 ?hg (N := 17) ?hd (xs := ([] : List Int)) (inner := []) (ok := fun _ => True) (okp := fun _ => True) ?hr ?hp (fun _ hk => hk) trivial (Below.refl _ _) (Nat.le_refl _) (by simp) ?_; (case hd => rfl); (case hg => rfl); (case hr => first | (go_simp; done) | (go_simp; rfl)); (case hp => exact (Reps.none _ _)); intro v17 w3 ho4 hb hg_ hnew_; clear hg_ hnew_; obtain ⟨Av, cv, rfl⟩ := Kd.R_slice ho4; have HO := Aside0.mk (Kd.R_lower ho4 (below_size HB.out)); have n1_ := Aside0.mk (below_step HB.out hb); have M0 := Aside0.mk (blk_below B0.out hb); have M1 := Aside0.mk (blk_below B1.out hb); clear HB B0 B1; have HB := n1_; clear n1_; clear hb ho4))
    have g0 := blk_lt' M0.out
    have g1 := blk_lt' M1.out
    have gB := HB.out.size
    have DD := Aside0.mk (show DistF w.heap.size w.heap.size (w.heap.size + 1) (w3.heap.size + 1) w3.heap.size (w3.heap.size + 1 + 1) from ⟨by omega, by omega, by omega, by omega, by omega, by omega, by omega, by omega, by omega⟩)
    have RB := Aside0.mk (show Kd.R (Kd.int .i64) 2 w3 w.heap.size (okF (w3.heap.size + 1) w3.heap.size) (.slice Av 0 cv) [] from Kd.R_mono (Kd.R_bound HO.out) (fun k hk => ⟨by have := hk.2.2.1; omega, by have := hk.2.2.1; omega⟩))
    clear g0 g1 gB h
    refine (choose_calls w w.heap.size (w.heap.size + 1) (w3.heap.size + 1) w3.heap.size (w3.heap.size + 1 + 1) A0 c0 l0 A1 c1 l1 HR0 HC0 HR1 HC1 HL7 HLL DD l0.length [] none 0 ([], -1) _ ⟨by simp⟩ ⟨fun x hx => absurd hx (by simp)⟩ ⟨by simp⟩
      ⟨⟨blk_alloc (blk_alloc (blk_alloc M0.out _) _) _, blk_alloc (blk_alloc (blk_alloc M1.out _) _) _, blk_alloc (blk_newAt (by simp) _) _, ⟨_, blk_alloc (blk_alloc (blk_newAt rfl _) _) _, Kd.R_alloc (Kd.R_alloc (Kd.R_alloc RB.out _) _) _⟩, blk_newAt (by simp) _, below_alloc (below_alloc (below_alloc HB.out _) _) _⟩⟩ ⟨Kd.R_nil _ _ _ _ _⟩).mono ?_
    rintro e w5 ⟨rfl, HI5, HK5⟩
    generalize chooseM l0 l1 l0.length [] ([], -1) = σ at HI5 H1 H2
    obtain ⟨s1, s2⟩ := σ
    have e1 := H1.out
    have e2 := H2.out
    dsimp only at e1 e2
    subst e1 e2
    have hcl := cell_of HI5.hl
    obtain ⟨vb, hb_, hRb⟩ := HI5.hb
    have hcb := cell_of hb_
    obtain ⟨Ab, cb, rfl⟩ := Kd.R_slice hRb
    have HRb := Aside0.mk (Kd.R_mono hRb (fun k _ => trivial))
    have HB5 := Aside0.mk HI5.bel
    clear HI5 HK5 hb_ hRb H1 H2
    go_wp2_with fail
    go_quiet (fail)
    go_wp2_with fail
    go_ret3
    exact ⟨_, rfl, (by (with_reducible repeat (first | apply Kd.R_alloc | apply Kd.R_drewN | apply Kd.R_drew)); exact HRb.out), (by repeat (first | (with_reducible first | exact HB5.out | apply below_alloc | apply pw_below_drewN | apply below_drew1) | exact HB5.out))⟩
  · rw [if_neg hz] at h
    have hne2 : (timesC (duesB l0 l1) l0 7 != 0) = true := by simpa using hz
    generalize timesC (duesB l0 l1) l0 7 = c at *
    have hne : (c == 0) = false := by simpa using hz
    injection h with h1 h
    injection h with h2 h3
    subst h1 h2 h3
    go_enter Try.func45, Try.ntmps45
    go_wp2_with fail
    refine (impl_dueCode.calls A0 c0 l0 A1 c1 l1 7 c _ (Kd.C_below HR0.out HB.out) HC0.out (Kd.C_below HR1.out HB.out) HC1.out HD.out).mono ?_
    rintro e w1 ⟨rfl, hb⟩
    have HB' := Aside0.mk (below_step HB.out hb)
    clear hb
    go_wp2_with fail
    go_ret3
    exact ⟨_, rfl, Kd.R_nil _ _ _ _ _, HB'.out⟩
end Go.Proofs.Ytgfjmamjfkcmbaa.Ext
