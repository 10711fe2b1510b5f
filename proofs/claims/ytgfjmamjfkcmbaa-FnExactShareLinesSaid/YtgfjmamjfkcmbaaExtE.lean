/- spec.l05Give and spec.l05Shared by hand: a struct behind a pointer with three rows of its own; the search by recursion on what is left. -/
import Derived.Test.YtgfjmamjfkcmbaaExtBox
import Derived.Test.YtgfjmamjfkcmbaaQ25
import Derived.Test.YtgfjmamjfkcmbaaQ12
namespace Go.Proofs.Ytgfjmamjfkcmbaa.Ext
open Go.RowKit Go.Proofs.YtgfjmamjfkcmbaaW.PrintWords Go.Proofs.YtgfjmamjfkcmbaaW.PrintLast Go.Proofs.YtgfjmamjfkcmbaaW.PrintMore Go.Proofs.Ytgfjmamjfkcmbaa.Q
set_option linter.unusedVariables false
set_option linter.unusedSimpArgs false

/-! ### What it computes -/
def mxG (a b : Int) : Int := if a > b then a else b
theorem max_eq' (a b : Int) : spec_l00Max.f a b = some (mxG a b) := by unfold spec_l00Max.f mxG; split <;> rfl
def fromG (rising : Bool) (lst : List Int) : Nat := if rising = true ∧ 0 < lst.length then (rd lst ((lst.length : Int) - 1)).toNat else 0
def addG (t sums : List Int) (p k : Nat) : List Int := sums.set k (wrap64 (rd sums k + rd t p))
def giveM (t : List Int) (cut : Nat) (rising : Bool) : Nat → List Int → List Int → Int → List Int × Int → List Int × Int
  | 0, lst, sums, most, σ => if 0 ≤ σ.2 ∧ σ.2 ≤ most then σ else (lst, most)
  | r + 1, lst, sums, most, σ => if 0 ≤ σ.2 ∧ σ.2 ≤ most then σ else
      (List.range (cut - fromG rising lst)).foldl (fun σ (i : Nat) => giveM t cut rising r (lst ++ [((fromG rising lst + i : Nat) : Int)]) (addG t sums lst.length (fromG rising lst + i)) (mxG most (rd (addG t sums lst.length (fromG rising lst + i)) ((fromG rising lst + i : Nat) : Int))) σ) σ
def stepG (t : List Int) (cut : Nat) (rising : Bool) (r : Nat) (lst sums : List Int) (most : Int) (σ : List Int × Int) (i : Nat) : List Int × Int :=
  giveM t cut rising r (lst ++ [((fromG rising lst + i : Nat) : Int)]) (addG t sums lst.length (fromG rising lst + i)) (mxG most (rd (addG t sums lst.length (fromG rising lst + i)) ((fromG rising lst + i : Nat) : Int))) σ
theorem giveM_succ (t : List Int) (cut : Nat) (rising : Bool) (r : Nat) (lst sums : List Int) (most : Int) (σ : List Int × Int) :
    giveM t cut rising (r + 1) lst sums most σ = if 0 ≤ σ.2 ∧ σ.2 ≤ most then σ else (List.range (cut - fromG rising lst)).foldl (stepG t cut rising r lst sums most) σ := rfl
theorem rd_set (l : List Int) (k : Nat) (x : Int) (h : k < l.length) : rd (l.set k x) (k : Int) = x := by
  unfold rd
  rw [Int.toNat_natCast, List.getD_eq_getElem?_getD, List.getElem?_set_self h]; rfl
theorem set_back (l : List Int) (k : Nat) (b : Int) (h : k < l.length) (hw : wrap64 (rd l (k : Int)) = rd l (k : Int)) : (l.set k (wrap64 (rd l (k : Int) + b))).set k (wrap64 (wrap64 (rd l (k : Int) + b) - b)) = l := by
  rw [List.set_set, show wrap64 (wrap64 (rd l (k : Int) + b) - b) = rd l (k : Int) by
    rw [← hw]; unfold wrap64; omega]
  unfold rd
  rw [Int.toNat_natCast, List.getD_eq_getElem?_getD, List.getElem?_eq_getElem h, Option.getD_some]
  exact List.set_getElem_self h
theorem own_some (l : List Int) (hl : l.length ≤ 1048576) : spec_l00Own.f l = some l := by
  unfold spec_l00Own.f
  rw [Option.bind_some, if_pos (by simp; omega), List.nil_append]
theorem rd_mem'' (l : List Int) (n : Nat) (h : n < l.length) : rd l n ∈ l := by
  unfold rd
  rw [Int.toNat_natCast, List.getD_eq_getElem?_getD, List.getElem?_eq_getElem h]
  exact List.getElem_mem h
theorem wrap_wrap (x : Int) : wrap64 (wrap64 x) = wrap64 x := by unfold wrap64; omega

/-! ### The struct and its rows -/
def apart (u v : Value) : Prop := ∀ k, u.ownBlock = some k → v.ownBlock ≠ some k
abbrev RI (w : World) (B g : Nat) (v : Value) (l : List Int) : Prop := Kd.R (Kd.int .i64) 2 w B (fun k => k ≠ g) v l
structure InvG (w0 : World) (B g : Nat) (A0 : Option Addr) (c0 : Nat) (l0 : List Int) (cut : Nat) (rising : Bool) (lst sums : List Int) (σ : List Int × Int) (vl vs vb : Value) (w : World) : Prop where
  hg : w.heap[g]? = some (.cells #[.slice A0 l0.length c0, .int .i64 (cut : Int), .bool rising, vl, vs, vb, .int .i64 σ.2] 118 (0, 0))
  hl : RI w B g vl lst
  hs : RI w B g vs sums
  hb : RI w B g vb σ.1
  a1 : apart vl vs
  a2 : apart vl vb
  a3 : apart vs vb
  bel : Below B w0 w
  hB : B ≤ g
section
variable {w0 w w1 w2 : World} {B g : Nat} {A0 : Option Addr} {c0 : Nat} {l0 : List Int} {cut : Nat} {rising : Bool} {lst sums : List Int} {σ : List Int × Int} {vl vs vb : Value}
theorem InvG.below (h : InvG w0 B g A0 c0 l0 cut rising lst sums σ vl vs vb w) (hb : Below w.heap.size w w1) : InvG w0 B g A0 c0 l0 cut rising lst sums σ vl vs vb w1 :=
  ⟨(hb.block _ (blk_lt' h.hg)).trans h.hg, Kd.R_below h.hl hb, Kd.R_below h.hs hb, Kd.R_below h.hb hb, h.a1, h.a2, h.a3, h.bel.trans (hb.mono (by have := blk_lt' h.hg; have := h.hB; omega)), h.hB⟩
theorem InvG.drew (h : InvG w0 B g A0 c0 l0 cut rising lst sums σ vl vs vb w) : InvG w0 B g A0 c0 l0 cut rising lst sums σ vl vs vb w.drew := h.below (below_drew (Below.refl _ _))
theorem RI_far {v : Value} {l : List Int} (h : RI w B g v l) (j : Nat) (u : Value) : RI (w.setCell ⟨g, j, none⟩ u) B g v l := Kd.R_far (p := ⟨g, j, none⟩) h (fun _ hk => hk) u
theorem InvG.lt (h : InvG w0 B g A0 c0 l0 cut rising lst sums σ vl vs vb w) : g < w.heap.size := blk_lt' h.hg
theorem own_lt {v : Value} {l : List Int} (h : RI w B g v l) (k : Nat) (hk : v.ownBlock = some k) : k < w.heap.size := (Kd.R_bound h).1 k hk |>.2.2.1
theorem InvG.setList (h : InvG w0 B g A0 c0 l0 cut rising lst sums σ vl vs vb w) {v : Value} {l : List Int} (hv : RI w B g v l) (b1 : apart v vs) (b2 : apart v vb) : InvG w0 B g A0 c0 l0 cut rising l sums σ v vs vb (w.setCell ⟨g, 3, none⟩ v) :=
  ⟨blk_set h.hg 3 v, RI_far hv _ _, RI_far h.hs _ _, RI_far h.hb _ _, b1, b2, h.a3, h.bel.setCell h.hB _, h.hB⟩
theorem InvG.setBest (h : InvG w0 B g A0 c0 l0 cut rising lst sums σ vl vs vb w) {v : Value} {l : List Int} (hv : RI w B g v l) (b1 : apart vl v) (b2 : apart vs v) : InvG w0 B g A0 c0 l0 cut rising lst sums (l, σ.2) vl vs v (w.setCell ⟨g, 5, none⟩ v) :=
  ⟨blk_set h.hg 5 v, RI_far h.hl _ _, RI_far h.hs _ _, RI_far hv _ _, h.a1, b1, b2, h.bel.setCell h.hB _, h.hB⟩
theorem InvG.setLeast (h : InvG w0 B g A0 c0 l0 cut rising lst sums σ vl vs vb w) (m : Int) : InvG w0 B g A0 c0 l0 cut rising lst sums (σ.1, m) vl vs vb (w.setCell ⟨g, 6, none⟩ (.int .i64 m)) :=
  ⟨blk_set h.hg 6 _, RI_far h.hl _ _, RI_far h.hs _ _, RI_far h.hb _ _, h.a1, h.a2, h.a3, h.bel.setCell h.hB _, h.hB⟩
theorem RI_grown {v : Value} {l : List Int} {row : Option Nat} (h : RI w B g v l) (hg : w.grownBy w1 row) (hne : ∀ k, v.ownBlock = some k → row ≠ some k) : RI w1 B g v l := by
  have h2 : Kd.R (Kd.int .i64) 2 w B (fun k => k ≠ g ∧ row ≠ some k) v l := Kd.R_of_own (Kd.own_of_R h) (fun k hk => ⟨h.1 k hk, hne k hk⟩)
  exact Kd.R_mono (Kd.R_grown h2 hg (fun k hk e => hk.2 e.symm)) (fun k hk => hk.1)
/-- The list has been appended to. -/
theorem InvG.grown (h : InvG w0 B g A0 c0 l0 cut rising lst sums σ vl vs vb w) {v : Value} {l : List Int} (hv : RI w1 B g v l) (hgr : w.grownBy w1 vl.ownBlock) (hat : v.ownBlock = vl.ownBlock ∨ ∃ b, v.ownBlock = some b ∧ w.heap.size ≤ b) (hbel : Below B w0 w1) :
    w1.heap[g]? = some (.cells #[.slice A0 l0.length c0, .int .i64 (cut : Int), .bool rising, vl, vs, vb, .int .i64 σ.2] 118 (0, 0)) ∧ InvG w0 B g A0 c0 l0 cut rising l sums σ v vs vb (w1.setCell ⟨g, 3, none⟩ v) := by
  have hgg : w1.heap[g]? = w.heap[g]? := hgr.block g h.lt (fun e => h.hl.1 g e.symm rfl)
  have hs := RI_grown h.hs hgr (fun k hk e => h.a1 k e hk)
  have hb := RI_grown h.hb hgr (fun k hk e => h.a2 k e hk)
  have ap : ∀ u, (∀ k, u.ownBlock = some k → k < w.heap.size) → apart vl u → apart v u := by
    intro u hu ha k hk e
    rcases hat with h1 | ⟨b, h1, h2⟩
    · rw [h1] at hk; exact ha k hk e
    · rw [h1] at hk
      injection hk with hk
      have := hu k e
      omega
  refine ⟨hgg.trans h.hg, blk_set (hgg.trans h.hg) 3 v, RI_far hv _ _, RI_far hs _ _, RI_far hb _ _, ap _ (own_lt h.hs) h.a1, ap _ (own_lt h.hb) h.a2, h.a3, hbel.setCell h.hB _, h.hB⟩
/-- A sum has been written. -/
theorem InvG.setSum {gs n cap : Nat} (h : InvG w0 B g A0 c0 l0 cut rising lst sums σ vl (.slice (some ⟨gs, 0, none⟩) n cap) vb w) (hB : B ≤ gs) (k : Nat) (x : Int) : InvG w0 B g A0 c0 l0 cut rising lst (sums.set k x) σ vl (.slice (some ⟨gs, 0, none⟩) n cap) vb (w.setCell ⟨gs, k, none⟩ (.int .i64 x)) := by
  obtain ⟨h1, h2⟩ := Kd.R_putg h.hs (k : Int) x
  have hne : gs ≠ g := h.hs.1 gs rfl
  refine ⟨(Below.heap_setCell _ _ _ _ (fun e => hne e.symm)).trans h.hg, RI_grown h.hl h2 (fun k hk e => h.a1 k hk e), h1, RI_grown h.hb h2 (fun k hk e => h.a3 gs rfl (by rw [hk, ← e])), h.a1, h.a2, h.a3, h.bel.setCell hB _, h.hB⟩
theorem RI_new {v : Value} {l : List Int} (hr : Kd.R (Kd.int .i64) 2 w1 w.heap.size (fun _ => True) v l) (h : InvG w0 B g A0 c0 l0 cut rising lst sums σ vl vs vb w) : RI w1 B g v l :=
  Kd.R_lower (Kd.R_mono (Kd.R_bound hr) (fun k hk e => by have h1 : w.heap.size ≤ k := hk.2.1; have := h.lt; omega)) (by have := h.lt; have := h.hB; omega)
theorem apart_new {v u : Value} {l : List Int} (h : RI w B g u l) (hv : ∀ k, v.ownBlock = some k → w.heap.size ≤ k) : apart u v := fun k hk e => by have := own_lt h k hk; have := hv k e; omega
theorem InvG.cell (h : InvG w0 B g A0 c0 l0 cut rising lst sums σ vl vs vb w) (i : Nat) (v : Value) (hv : (#[.slice A0 l0.length c0, .int .i64 (cut : Int), .bool rising, vl, vs, vb, .int .i64 σ.2] : Array Value)[i]? = some v) : w.cell? ⟨g, i, none⟩ = some v := (blk_cell h.hg i).trans hv
end
theorem skipN_ {P : Program} {ops : Array Oper} {Q : Exit → Act → World → Prop} {oi : Oper} {a : Act} {w w1 : World} {K : Act → World → Prop} (hw : Region.wanted oi (yielded ops a.tmps) = true) (hN : oi.dst = none) (hrun : (execOp a.eval oi).run P w = .ok .skip w1)
    (h : ∀ w2, w2 = w1 → K a w2) : if Region.wanted oi (yielded ops a.tmps) = true then Oper.wp P oi a w K Q else K (a.put none undef) w := skip_ hw hN hrun (h w1 rfl)
set_option maxRecDepth 100000 in
set_option maxHeartbeats 2000000 in
theorem give_calls (w0 : World) (g : Nat) (A0 : Option Addr) (c0 : Nat) (l0 : List Int) (cut : Nat) (rising : Bool)
    (HR0 : Aside0 (Kd.C (Kd.int .i64) w0 A0 l0.length l0)) (hc0 : Aside0 (l0.length ≤ c0)) (HN : Aside0 (l0.length ≤ 1000)) (HCut : Aside0 (cut ≤ 1000)) :
    ∀ (r : Nat) (lst sums : List Int) (most : Int) (σ : List Int × Int) (vl vs vb : Value) (w : World), Aside0 (lst.length + r = l0.length) → Aside0 (∀ y ∈ lst, 0 ≤ y ∧ y < cut) → Aside0 (sums.length = cut) → Aside0 (∀ y ∈ sums, wrap64 y = y) →
      Aside0 (InvG w0 w0.heap.size g A0 c0 l0 cut rising lst sums σ vl vs vb w) →
      Calls Try.prog 108 #[.pointer (some ⟨g, 0, none⟩), .int .i64 most] w
        fun e w' => e = .returned (.tuple #[]) ∧ ∃ vl' vs' vb', InvG w0 w0.heap.size g A0 c0 l0 cut rising lst sums (giveM l0 cut rising r lst sums most σ) vl' vs' vb' w' := by
  intro r
  induction r with
  | zero =>
    intro lst sums most σ vl vs vb w HO HL HS HW HV
    obtain ⟨Al, cl, el⟩ := Kd.R_slice HV.out.hl
    subst el
    have h3 := HV.out.cell 3 _ rfl
    have h6 := HV.out.cell 6 _ rfl
    have h0 := HV.out.cell 0 _ rfl
    obtain ⟨s, hs⟩ : ∃ s, σ.2 = s := ⟨_, rfl⟩
    have HE := Aside0.mk (show giveM l0 cut rising 0 lst sums most σ = if 0 ≤ s ∧ s ≤ most then σ else (lst, most) by rw [← hs]; rfl)
    rw [hs] at h6
    clear hs
    have hl := HO.out
    have hn : ((lst.length : Int) == (l0.length : Int)) = true := by rw [beq_iff_eq]; omega
    clear hl
    by_cases c1 : 0 ≤ s
    · have d1 : decide (0 ≤ s) = true := decide_eq_true c1
      by_cases c2 : s ≤ most
      · have d2 : decide (s ≤ most) = true := decide_eq_true c2
        have HE2 := Aside0.mk (HE.out.trans (if_pos ⟨c1, c2⟩))
        clear c1 c2 HE
        go_enter Try.func108, Try.ntmps108
        go_wp2_with fail
        refine bodyPost_ret (results_none rfl _ _ _) rfl ?_
        rw [HE2.out]
        exact ⟨rfl, _, _, _, HV.out⟩
      · have d2 : decide (s ≤ most) = false := decide_eq_false c2
        have HE2 := Aside0.mk (HE.out.trans (if_neg (fun h => c2 h.2)))
        clear c1 c2 HE
        go_enter Try.func108, Try.ntmps108
        go_wp2_with fail
        refine (spec_l00Own.calls Al cl lst lst _ (Kd.R_reads' HV.out.hl).2.2 (Kd.R_reads' HV.out.hl).2.1 (own_some lst (by have := HO.out; have := HN.out; omega))).mono ?_
        rintro e w2 ⟨v37, rfl, hr, hb⟩
        have HV2 := Aside0.mk (HV.out.below hb)
        have HF := Aside0.mk (show RI w2 w0.heap.size g v37 lst ∧ (∀ k, v37.ownBlock = some k → w.heap.size ≤ k) from ⟨RI_new hr HV.out, fun k hk => ((Kd.R_bound hr).1 k hk).2.1⟩)
        obtain ⟨A37, c37, rfl⟩ := Kd.R_slice hr
        have HA1 := Aside0.mk (apart_new HV.out.hl HF.out.2)
        have HA2 := Aside0.mk (apart_new HV.out.hs HF.out.2)
        clear hr hb h0 h3 h6
        have c5 := HV2.out.cell 5 _ rfl
        have f5 := blk_frozen HV2.out.hg 5
        have HV3 := Aside0.mk (HV2.out.setBest HF.out.1 HA1.out HA2.out)
        have c6 := HV3.out.cell 6 _ rfl
        have f6 := blk_frozen HV3.out.hg 6
        go_wp2_with fail
        refine bodyPost_ret (results_none rfl _ _ _) rfl ?_
        rw [HE2.out]
        exact ⟨rfl, _, _, _, HV3.out.setLeast most⟩
    · have d1 : decide (0 ≤ s) = false := decide_eq_false c1
      have HE2 := Aside0.mk (HE.out.trans (if_neg (fun h => c1 h.1)))
      clear c1 HE
      go_enter Try.func108, Try.ntmps108
      go_wp2_with fail
      refine (spec_l00Own.calls Al cl lst lst _ (Kd.R_reads' HV.out.hl).2.2 (Kd.R_reads' HV.out.hl).2.1 (own_some lst (by have := HO.out; have := HN.out; omega))).mono ?_
      rintro e w2 ⟨v37, rfl, hr, hb⟩
      have HV2 := Aside0.mk (HV.out.below hb)
      have HF := Aside0.mk (show RI w2 w0.heap.size g v37 lst ∧ (∀ k, v37.ownBlock = some k → w.heap.size ≤ k) from ⟨RI_new hr HV.out, fun k hk => ((Kd.R_bound hr).1 k hk).2.1⟩)
      obtain ⟨A37, c37, rfl⟩ := Kd.R_slice hr
      have HA1 := Aside0.mk (apart_new HV.out.hl HF.out.2)
      have HA2 := Aside0.mk (apart_new HV.out.hs HF.out.2)
      clear hr hb h0 h3 h6
      have c5 := HV2.out.cell 5 _ rfl
      have f5 := blk_frozen HV2.out.hg 5
      have HV3 := Aside0.mk (HV2.out.setBest HF.out.1 HA1.out HA2.out)
      have c6 := HV3.out.cell 6 _ rfl
      have f6 := blk_frozen HV3.out.hg 6
      go_wp2_with fail
      refine bodyPost_ret (results_none rfl _ _ _) rfl ?_
      rw [HE2.out]
      exact ⟨rfl, _, _, _, HV3.out.setLeast most⟩
  | succ r ih =>
    intro lst sums most σ vl vs vb w HO HL HS HW HV
    obtain ⟨ad, eA, _⟩ := Kd.at_int HR0.out (lst.length : Int) (by omega) (by have := HO.out; omega)
    subst eA
    obtain ⟨Al, cl, el⟩ := Kd.R_slice HV.out.hl
    subst el
    have h3 := HV.out.cell 3 _ rfl
    have h6 := HV.out.cell 6 _ rfl
    have h0 := HV.out.cell 0 _ rfl
    have h1 := HV.out.cell 1 _ rfl
    have h2 := HV.out.cell 2 _ rfl
    obtain ⟨s, hs⟩ : ∃ s, σ.2 = s := ⟨_, rfl⟩
    have HE := Aside0.mk (show giveM l0 cut rising (r + 1) lst sums most σ = if 0 ≤ s ∧ s ≤ most then σ else (List.range (cut - fromG rising lst)).foldl (stepG l0 cut rising r lst sums most) σ by rw [← hs]; rfl)
    rw [hs] at h6
    clear hs
    have hl := HO.out
    have hn : ((lst.length : Int) == (l0.length : Int)) = false := by rw [beq_eq_false_iff_ne]; omega
    clear hl
    have hll : (lst.length : Int) < (l0.length : Int) := by have := HO.out; omega
    have hl1000 : lst.length ≤ 1000 := by have := HN.out; omega
    have hc1000 : cut ≤ 1000 := HCut.out
    obtain ⟨F, hF⟩ : ∃ F, fromG rising lst = F := ⟨_, rfl⟩
    have HF := Aside0.mk hF
    clear hF
    go_enter Try.func108, Try.ntmps108
    go_upto_region 1 with fail
    go_cut [24] (fun v24 wc => v24 = .bool (decide (0 ≤ s ∧ s ≤ most)) ∧ wc = w)
    case first =>
      by_cases c1 : 0 ≤ s
      · have d1 : decide (0 ≤ s) = true := decide_eq_true c1
        by_cases c2 : s ≤ most
        · have d2 : decide (s ≤ most) = true := decide_eq_true c2
          have HD := Aside0.mk (show decide (0 ≤ s ∧ s ≤ most) = true from decide_eq_true ⟨c1, c2⟩)
          clear c1 c2
          go_wp2
          go_meet
          case rel => exact ⟨by rw [HD.out], rfl⟩
        · have d2 : decide (s ≤ most) = false := decide_eq_false c2
          have HD := Aside0.mk (show decide (0 ≤ s ∧ s ≤ most) = false from decide_eq_false (fun h => c2 h.2))
          clear c1 c2
          go_wp2
          go_meet
          case rel => exact ⟨by rw [HD.out], rfl⟩
      · have d1 : decide (0 ≤ s) = false := decide_eq_false c1
        have HD := Aside0.mk (show decide (0 ≤ s ∧ s ≤ most) = false from decide_eq_false (fun h => c1 h.1))
        clear c1
        go_wp2
        go_meet
        case rel => exact ⟨by rw [HD.out], rfl⟩
    case rest =>
      obtain ⟨rfl, hw_⟩ := hcut
      obtain rfl : w = wc := hw_.symm
      by_cases c1 : 0 ≤ s ∧ s ≤ most
      · have HE2 := Aside0.mk (HE.out.trans (if_pos c1))
        have d1 : decide (0 ≤ s ∧ s ≤ most) = true := decide_eq_true c1
        rw [d1]
        clear c1 HE d1
        go_wp2
        refine bodyPost_ret (results_none rfl _ _ _) rfl ?_
        rw [HE2.out]
        exact ⟨rfl, _, _, _, HV.out⟩
      · have HE2 := Aside0.mk (HE.out.trans (if_neg c1))
        have d1 : decide (0 ≤ s ∧ s ≤ most) = false := decide_eq_false c1
        rw [d1]
        clear c1 HE d1
        go_upto_region 6 with fail
        go_cut [51] (fun v51 wc => v51 = .bool (decide (rising = true ∧ 0 < lst.length)) ∧ wc = w)
        case first =>
          cases hri : rising with
          | false =>
            subst hri
            go_wp2
            go_meet
            case rel => exact ⟨by simp, rfl⟩
          | true =>
            subst hri
            have hd : decide ((0 : Int) < (lst.length : Int)) = decide (0 < lst.length) := by simp
            go_wp2
            go_meet
            case rel => exact ⟨by simp, rfl⟩
        case rest =>
          obtain ⟨rfl, hw_⟩ := hcut
          obtain rfl : w = wc := hw_.symm
          go_upto_if 51 with fail
          go_cut [5] (fun v5 wc => v5 = .int .i64 (F : Int) ∧ wc = w)
          case first =>
            by_cases c3 : rising = true ∧ 0 < lst.length
            · obtain ⟨ad2, e2, hy⟩ := Kd.at_int (Kd.R_reads' HV.out.hl).2.2 ((lst.length : Int) - 1) (by have := c3.2; omega) (by omega)
              subst e2
              rw [show ((lst.length : Int) - 1).toNat = lst.length - 1 by omega] at hy
              obtain ⟨y, hy2⟩ : ∃ y, rd lst ((lst.length : Int) - 1) = y := ⟨_, rfl⟩
              rw [hy2] at hy
              have hyF : y = (F : Int) := by
                have h1 := HF.out
                unfold fromG at h1
                rw [if_pos c3, hy2] at h1
                have h2 := HL.out y (by
                  rw [← hy2]; unfold rd
                  rw [List.getD_eq_getElem?_getD, List.getElem?_eq_getElem (show ((lst.length : Int) - 1).toNat < lst.length by have := c3.2; omega)]
                  exact List.getElem_mem _)
                omega
              subst hyF
              have p1 : (0 : Int) ≤ (lst.length : Int) - 1 := by have := c3.2; omega
              have p2 : (lst.length : Int) - 1 < lst.length := by omega
              have p3 : ((lst.length : Int) - 1).toNat = lst.length - 1 := by omega
              have d3 : decide (rising = true ∧ 0 < lst.length) = true := decide_eq_true c3
              rw [d3]
              clear c3 hy2 d3
              go_wp2
              go_meet
              case rel => exact ⟨rfl, rfl⟩
            · have hF0 : F = 0 := by have h1 := HF.out; unfold fromG at h1; rw [if_neg c3] at h1; exact h1.symm
              subst hF0
              have d3 : decide (rising = true ∧ 0 < lst.length) = false := decide_eq_false c3
              rw [d3]
              clear c3 d3
              go_wp2
              go_meet
              case rel => exact ⟨rfl, rfl⟩
          case rest =>
            obtain ⟨rfl, hw_⟩ := hcut
            obtain rfl : w = wc := hw_.symm
            have HFc := Aside0.mk (show (List.range (cut - fromG rising lst)).foldl (stepG l0 cut rising r lst sums most) σ = (List.range (cut - F)).foldl (stepG l0 cut rising r lst sums most) σ by rw [HF.out])
            have hF1000 : F ≤ 1000 := by
              have h1 := HF.out
              unfold fromG at h1
              split at h1
              · rename_i c3
                have h2 := HL.out (rd lst ((lst.length : Int) - 1)) (by
                  unfold rd
                  rw [List.getD_eq_getElem?_getD, List.getElem?_eq_getElem (show ((lst.length : Int) - 1).toNat < lst.length by have := c3.2; omega)]
                  exact List.getElem_mem _)
                omega
              · omega
            clear h0 h1 h2 h3 h6 hn
            go_wp2
            go_loopg [6] (cut - F) (fun gg s6 wr => ∃ i : Nat, i ≤ cut - F ∧ (cut - F) - i ≤ gg ∧ s6 = .int .i64 ((F + i : Nat) : Int) ∧ Aside0 (∃ vl vs vb, InvG w0 w0.heap.size g (some ad) c0 l0 cut rising lst sums ((List.range i).foldl (stepG l0 cut rising r lst sums most) σ) vl vs vb wr))
            case atStart => exact ⟨0, by omega, by omega, rfl, ⟨_, _, _, HV.out⟩⟩
            case round =>
              obtain ⟨i, hi, hg, rfl, HV1⟩ := hrel
              obtain ⟨vl1, vs1, vb1, hv1⟩ := HV1.out
              have H1 := Aside0.mk hv1
              clear HV1 hv1
              obtain ⟨k, hk⟩ : ∃ k, F + i = k := ⟨_, rfl⟩
              rw [hk]
              have hcut0 := H1.out.cell 1 _ rfl
              by_cases hlt : i < cut - F
              · have hltz : (k : Int) < (cut : Int) := by omega
                have hkc : k < cut := by omega
                have HS1 := Aside0.mk (show (List.range (i + 1)).foldl (stepG l0 cut rising r lst sums most) σ = stepG l0 cut rising r lst sums most ((List.range i).foldl (stepG l0 cut rising r lst sums most) σ) i from fold_succ _ σ i)
                generalize (List.range i).foldl (stepG l0 cut rising r lst sums most) σ = σi at H1 HS1
                replace HS1 : Aside0 ((List.range (i + 1)).foldl (stepG l0 cut rising r lst sums most) σ = giveM l0 cut rising r (lst ++ [(k : Int)]) (addG l0 sums lst.length k) (mxG most (rd (addG l0 sums lst.length k) (k : Int))) σi) := ⟨by rw [HS1.out]; unfold stepG; rw [HF.out, hk]⟩
                obtain ⟨Al1, cl1, e1⟩ := Kd.R_slice H1.out.hl
                subst e1
                obtain ⟨gs, cs, e2, hgs, _⟩ := Kd.R_form H1.out.hs (by have := HS.out; omega)
                rw [HS.out] at e2
                subst e2
                have GS := Aside0.mk hgs
                have hc3 := H1.out.cell 3 _ rfl
                obtain ⟨xs, hxs⟩ : ∃ xs, rd sums (k : Int) = xs := ⟨_, rfl⟩
                obtain ⟨xt, hxt⟩ : ∃ xt, rd l0 (lst.length : Int) = xt := ⟨_, rfl⟩
                have HXS := Aside0.mk hxs
                have HXT := Aside0.mk hxt
                clear hgs hxs hxt hlt hi
                go_wp2_with (first | ((with_reducible refine gate_builtin (b := .append) (xs := #[.tmp 73, .tmp 75]) rfl ?_); at_builtin; refine Kd.R_append (Kd.int .i64) (w0 := w0) w0.heap.size rfl (.tmp 73) (.tmp 75) 48 2 (.int .i64 0) 8 rfl Try.underlying48 info_i64 rfl (by decide) (by omega) _ lst (k : Int) [.int .i64 (k : Int)] (fun q => q ≠ g) (fun _ => False) rfl rfl ?aP (fun _ hk => hk.elim) ?aF ?aO ?aB ?aS ?aL ?_; (case aP => exact rfl); (case aB => exact H1.out.bel); (case aF => exact (fun q hq e => by have := H1.out.lt; omega)); (case aO => exact H1.out.hl); (case aS => exact (below_size H1.out.bel)); (case aL => omega); intro v76 w1 ho hb hg' hat; obtain ⟨A76, c76, e76⟩ := Kd.R_slice ho; rw [show (lst ++ [(k : Int)]).length = lst.length + 1 by simp] at e76; subst e76; have hG := H1.out.grown ho hg' hat hb; have hc31 : w1.cell? ⟨g, 3, none⟩ = some (.slice Al1 lst.length cl1) := (blk_cell hG.1 3).trans rfl; have hf31 := blk_frozen hG.1 3; have H2 := Aside0.mk hG.2; clear hG ho hb hg' hat hc3 H1 hcut0))
                clear hc31 hf31
                have hsf' := Kd.R_celln 0 H2.out.hs (k : Int) (by omega) (by omega)
                have hsc : _ = some (Value.int .i64 xs) := (hsf'.1).trans (by rw [← HXS.out]; rfl)
                have hsf := hsf'.2
                rw [Int.toNat_natCast] at hsc hsf
                obtain ⟨ad', ea, htc⟩ := Kd.at_int (Kd.C_below HR0.out H2.out.bel) (lst.length : Int) (by omega) hll
                injection ea with ea
                subst ea
                rw [HXT.out, Int.toNat_natCast] at htc
                clear hsf'
                refine start_ (n := 17) (S := fun w' => w'.cell? ⟨g, 4, none⟩ = some (.slice (some ⟨gs, 0, none⟩) cut cs) ∧ w'.cell? ⟨g, 0, none⟩ = some (.slice (some ad) l0.length c0) ∧ w'.cell? ⟨gs, k, none⟩ = some (.int .i64 xs) ∧ w'.frozen? ⟨gs, k, none⟩ = false ∧ w'.cell? (ad.add lst.length) = some (.int .i64 xt)) (ds := [16]) #[false, false, false, false, false, false, false, false, false, false, false, false, false, false, false, false, false] (by kernel_rfl) rfl rfl ⟨(H2.out.cell 4 _ rfl), (H2.out.cell 0 _ rfl), hsc, hsf, htc⟩ (fun hHeld => ?_)
                refine pure_ (i := 0) (N := some 79) (v := ?_) (a' := ?_) #[true, false, false, false, false, false, false, false, false, false, false, false, false, false, false, false, false] rfl rfl (by kernel_rfl) (fun _ _ _ h => h) (Or.inl ⟨by rfl, ?_⟩) ?_ ?_
                rotate_left
                · intro w'
                  go_simp
                  with_reducible rfl
                rotate_left
                · simp only [Act.put, List.setIfInBounds_toArray, List.set_cons_zero, List.set_cons_succ, i64_w, i32_w]
                  rfl
                refine pure_ (i := 1) (N := some 80) (v := ?_) (a' := ?_) #[true, true, false, false, false, false, false, false, false, false, false, false, false, false, false, false, false] rfl rfl (by kernel_rfl) (fun _ _ _ h => h) (Or.inl ⟨by rfl, ?_⟩) ?_ ?_
                rotate_left
                · intro w'
                  go_simp
                  with_reducible rfl
                rotate_left
                · simp only [Act.put, List.setIfInBounds_toArray, List.set_cons_zero, List.set_cons_succ, i64_w, i32_w]
                  rfl
                refine pure_ (i := 2) (N := some 81) (v := ?_) (a' := ?_) #[true, true, true, false, false, false, false, false, false, false, false, false, false, false, false, false, false] rfl rfl (by kernel_rfl) (fun _ _ _ h => h) (Or.inl ⟨by rfl, ?_⟩) ?_ ?_
                rotate_left
                · intro w'
                  go_simp
                  with_reducible rfl
                rotate_left
                · simp only [Act.put, List.setIfInBounds_toArray, List.set_cons_zero, List.set_cons_succ, i64_w, i32_w]
                  rfl
                refine pure_ (i := 4) (N := some 83) (v := ?_) (a' := ?_) #[true, true, true, false, true, false, false, false, false, false, false, false, false, false, false, false, false] rfl rfl (by kernel_rfl) (fun _ _ _ h => h) (Or.inl ⟨by rfl, ?_⟩) ?_ ?_
                rotate_left
                · intro w'
                  go_simp
                  with_reducible rfl
                rotate_left
                · simp only [Act.put, List.setIfInBounds_toArray, List.set_cons_zero, List.set_cons_succ, i64_w, i32_w]
                  rfl
                refine pure_ (i := 7) (N := some 86) (v := ?_) (a' := ?_) #[true, true, true, false, true, false, false, true, false, false, false, false, false, false, false, false, false] rfl rfl (by kernel_rfl) (fun _ _ _ h => h) (Or.inl ⟨by rfl, ?_⟩) ?_ ?_
                rotate_left
                · intro w'
                  go_simp
                  with_reducible rfl
                rotate_left
                · simp only [Act.put, List.setIfInBounds_toArray, List.set_cons_zero, List.set_cons_succ, i64_w, i32_w]
                  rfl
                refine pure_ (i := 8) (N := some 87) (v := ?_) (a' := ?_) #[true, true, true, false, true, false, false, true, true, false, false, false, false, false, false, false, false] rfl rfl (by kernel_rfl) (fun _ _ _ h => h) (Or.inl ⟨by rfl, ?_⟩) ?_ ?_
                rotate_left
                · intro w'
                  go_simp
                  with_reducible rfl
                rotate_left
                · simp only [Act.put, List.setIfInBounds_toArray, List.set_cons_zero, List.set_cons_succ, i64_w, i32_w]
                  rfl
                refine pure_ (i := 9) (N := some 88) (v := ?_) (a' := ?_) #[true, true, true, false, true, false, false, true, true, true, false, false, false, false, false, false, false] rfl rfl (by kernel_rfl) (fun _ _ _ h => h) (Or.inl ⟨by rfl, ?_⟩) ?_ ?_
                rotate_left
                · intro w'
                  go_simp
                  with_reducible rfl
                rotate_left
                · simp only [Act.put, List.setIfInBounds_toArray, List.set_cons_zero, List.set_cons_succ, i64_w, i32_w]
                  rfl
                refine pure_ (i := 11) (N := some 90) (v := ?_) (a' := ?_) #[true, true, true, false, true, false, false, true, true, true, false, true, false, false, false, false, false] rfl rfl (by kernel_rfl) (fun _ _ _ h => h) (Or.inl ⟨by rfl, ?_⟩) ?_ ?_
                rotate_left
                · intro w'
                  go_simp
                  with_reducible rfl
                rotate_left
                · simp only [Act.put, List.setIfInBounds_toArray, List.set_cons_zero, List.set_cons_succ, i64_w, i32_w]
                  rfl
                refine take_ (i := 3) (N := some 82) (v := ?_) (a' := ?_) #[true, true, true, true, true, false, false, true, true, true, false, true, false, false, false, false, false] rfl rfl (by kernel_rfl) (fun _ _ _ h => h) (Or.inl ⟨by rfl, ?_⟩) hHeld ?_ ?_
                rotate_left
                · rintro w' ⟨s0, s1, s2, s3, s4⟩
                  go_simp
                  with_reducible rfl
                rotate_left
                · simp only [Act.put, List.setIfInBounds_toArray, List.set_cons_zero, List.set_cons_succ, i64_w, i32_w]
                  rfl
                refine pure_ (i := 5) (N := some 84) (v := ?_) (a' := ?_) #[true, true, true, true, true, true, false, true, true, true, false, true, false, false, false, false, false] rfl rfl (by kernel_rfl) (fun _ _ _ h => h) (Or.inl ⟨by rfl, ?_⟩) ?_ ?_
                rotate_left
                · intro w'
                  go_simp
                  with_reducible rfl
                rotate_left
                · simp only [Act.put, List.setIfInBounds_toArray, List.set_cons_zero, List.set_cons_succ, i64_w, i32_w]
                  rfl
                refine take_ (i := 6) (N := some 85) (v := ?_) (a' := ?_) #[true, true, true, true, true, true, true, true, true, true, false, true, false, false, false, false, false] rfl rfl (by kernel_rfl) (fun _ _ _ h => h) (Or.inl ⟨by rfl, ?_⟩) hHeld ?_ ?_
                rotate_left
                · rintro w' ⟨s0, s1, s2, s3, s4⟩
                  go_simp
                  with_reducible rfl
                rotate_left
                · simp only [Act.put, List.setIfInBounds_toArray, List.set_cons_zero, List.set_cons_succ, i64_w, i32_w]
                  rfl
                refine take_ (i := 10) (N := some 89) (v := ?_) (a' := ?_) #[true, true, true, true, true, true, true, true, true, true, true, true, false, false, false, false, false] rfl rfl (by kernel_rfl) (fun _ _ _ h => h) (Or.inl ⟨by rfl, ?_⟩) hHeld ?_ ?_
                rotate_left
                · rintro w' ⟨s0, s1, s2, s3, s4⟩
                  go_simp
                  with_reducible rfl
                rotate_left
                · simp only [Act.put, List.setIfInBounds_toArray, List.set_cons_zero, List.set_cons_succ, i64_w, i32_w]
                  rfl
                refine pure_ (i := 12) (N := some 91) (v := ?_) (a' := ?_) #[true, true, true, true, true, true, true, true, true, true, true, true, true, false, false, false, false] rfl rfl (by kernel_rfl) (fun _ _ _ h => h) (Or.inl ⟨by rfl, ?_⟩) ?_ ?_
                rotate_left
                · intro w'
                  go_simp
                  with_reducible rfl
                rotate_left
                · simp only [Act.put, List.setIfInBounds_toArray, List.set_cons_zero, List.set_cons_succ, i64_w, i32_w]
                  rfl
                refine take_ (i := 13) (N := some 92) (v := ?_) (a' := ?_) #[true, true, true, true, true, true, true, true, true, true, true, true, true, true, false, false, false] rfl rfl (by kernel_rfl) (fun _ _ _ h => h) (Or.inl ⟨by rfl, ?_⟩) hHeld ?_ ?_
                rotate_left
                · rintro w' ⟨s0, s1, s2, s3, s4⟩
                  go_simp
                  with_reducible rfl
                rotate_left
                · simp only [Act.put, List.setIfInBounds_toArray, List.set_cons_zero, List.set_cons_succ, i64_w, i32_w]
                  rfl
                refine pure_ (i := 14) (N := some 93) (v := ?_) (a' := ?_) #[true, true, true, true, true, true, true, true, true, true, true, true, true, true, true, false, false] rfl rfl (by kernel_rfl) (fun _ _ _ h => h) (Or.inl ⟨by rfl, ?_⟩) ?_ ?_
                rotate_left
                · intro w'
                  go_simp
                  with_reducible rfl
                rotate_left
                · simp only [Act.put, List.setIfInBounds_toArray, List.set_cons_zero, List.set_cons_succ, i64_w, i32_w]
                  rfl
                refine pure_ (i := 15) (N := some 94) (v := ?_) (a' := ?_) #[true, true, true, true, true, true, true, true, true, true, true, true, true, true, true, true, false] rfl rfl (by kernel_rfl) (fun _ _ _ h => h) (Or.inl ⟨by rfl, ?_⟩) ?_ ?_
                rotate_left
                · intro w'
                  go_simp
                  with_reducible rfl
                rotate_left
                · simp only [Act.put, List.setIfInBounds_toArray, List.set_cons_zero, List.set_cons_succ, i64_w, i32_w]
                  rfl
                refine last_ (i := 16) (N := none) #[true, true, true, true, true, true, true, true, true, true, true, true, true, true, true, true, true] rfl rfl (by kernel_rfl) (by decide) (fun K hK => ?_)
                have g0_ := hHeld.2.2.1
                have g1_ := hHeld.2.2.2.1
                refine skipN_ (w1 := ?_) (by rfl) rfl ?_ ?_
                rotate_left
                · go_simp
                  rfl
                intro w3 hw_
                have Hw3 := Aside0.mk (show InvG w0 w0.heap.size g (some ad) c0 l0 cut rising (lst ++ [(k : Int)]) (sums.set k (wrap64 (xs + xt))) σi (.slice A76 (lst.length + 1) c76) (.slice (some ⟨gs, 0, none⟩) cut cs) vb1 w3 from by rw [hw_]; exact (H2.out.setSum GS.out k (wrap64 (xs + xt))).drew)
                clear hw_ g0_ g1_
                refine hK.out _ _ ?_
                clear hK K
                refine done_ (by kernel_rfl) ?_
                have HSL := Aside0.mk (show (sums.set k (wrap64 (xs + xt))).length = cut by rw [List.length_set]; exact HS.out)
                have HY := Aside0.mk (rd_set sums k (wrap64 (xs + xt)) (by have := HS.out; omega))
                have HBK := Aside0.mk (show (sums.set k (wrap64 (xs + xt))).set k (wrap64 (wrap64 (xs + xt) - xt)) = sums by rw [← HXS.out]; exact set_back sums k xt (by have := HS.out; omega) (HW.out _ (rd_mem'' sums k (by have := HS.out; omega))))
                have HW2 := Aside0.mk (show ∀ y ∈ sums.set k (wrap64 (xs + xt)), wrap64 y = y from fun z hz => by rcases List.mem_or_eq_of_mem_set hz with h | h; exact HW.out z h; rw [h]; exact wrap_wrap _)
                have HAD := Aside0.mk (show addG l0 sums lst.length k = sums.set k (wrap64 (xs + xt)) by unfold addG; rw [HXS.out, HXT.out])
                rw [HAD.out, HY.out] at HS1
                generalize sums.set k (wrap64 (xs + xt)) = sums1 at Hw3 HSL HY HBK HW2 HS1
                generalize wrap64 (xs + xt) = y at Hw3 HY HBK HS1
                clear hHeld HAD hsc hsf htc H2 HXS
                have q4 := Hw3.out.cell 4 _ rfl
                have hy' := (Kd.R_celln 0 Hw3.out.hs (k : Int) (by omega) (by omega)).1
                have hyc : _ = some (Value.int .i64 y) := hy'.trans (by rw [← HY.out]; rfl)
                rw [Int.toNat_natCast] at hyc
                clear hy'
                go_wp2_with fail
                refine (spec_l00Max.calls most y (mxG most y) _ (max_eq' most y)).mono ?_
                rintro e w4 ⟨rfl, ⟨nd, rfl⟩⟩
                have H4 := Aside0.mk (Hw3.out.below (pw_below_drewN (Below.refl _ _) nd))
                clear q4 hyc
                go_wp2_with fail
                refine (ih (lst ++ [(k : Int)]) sums1 (mxG most y) σi _ _ vb1 _ ⟨by have := HO.out; simp; omega⟩ ⟨fun z hz => by rcases List.mem_append.1 hz with h | h; exact HL.out z h; rw [List.mem_singleton.1 h]; omega⟩ HSL HW2 H4).mono ?_
                rintro e w5 ⟨rfl, vl5, vs5, vb5, h5⟩
                generalize giveM l0 cut rising r (lst ++ [(k : Int)]) sums1 (mxG most y) σi = σ5 at h5 HS1
                obtain ⟨gL, cL, e1, _, _⟩ := Kd.R_form h5.hl (by simp)
                rw [show (lst ++ [(k : Int)]).length = lst.length + 1 by simp] at e1
                subst e1
                obtain ⟨gs, cs, e2, hgs, _⟩ := Kd.R_form h5.hs (by have := HSL.out; omega)
                rw [HSL.out] at e2
                subst e2
                have GS := Aside0.mk hgs
                have H5 := Aside0.mk h5
                clear h5 hgs H4 Hw3
                have hsf' := Kd.R_celln 0 H5.out.hs (k : Int) (by omega) (by omega)
                have hsc : _ = some (Value.int .i64 y) := (hsf'.1).trans (by rw [← HY.out]; rfl)
                have hsf := hsf'.2
                rw [Int.toNat_natCast] at hsc hsf
                obtain ⟨ad', ea, htc⟩ := Kd.at_int (Kd.C_below HR0.out H5.out.bel) (lst.length : Int) (by omega) hll
                injection ea with ea
                subst ea
                rw [HXT.out, Int.toNat_natCast] at htc
                clear hsf'
                go_wp2_with fail
                refine start_ (n := 17) (S := fun w' => w'.cell? ⟨g, 4, none⟩ = some (.slice (some ⟨gs, 0, none⟩) cut cs) ∧ w'.cell? ⟨g, 0, none⟩ = some (.slice (some ad) l0.length c0) ∧ w'.cell? ⟨gs, k, none⟩ = some (.int .i64 y) ∧ w'.frozen? ⟨gs, k, none⟩ = false ∧ w'.cell? (ad.add lst.length) = some (.int .i64 xt)) (ds := [16]) #[false, false, false, false, false, false, false, false, false, false, false, false, false, false, false, false, false] (by kernel_rfl) rfl rfl ⟨(H5.out.cell 4 _ rfl), (H5.out.cell 0 _ rfl), hsc, hsf, htc⟩ (fun hHeld => ?_)
                refine pure_ (i := 0) (N := some 106) (v := ?_) (a' := ?_) #[true, false, false, false, false, false, false, false, false, false, false, false, false, false, false, false, false] rfl rfl (by kernel_rfl) (fun _ _ _ h => h) (Or.inl ⟨by rfl, ?_⟩) ?_ ?_
                rotate_left
                · intro w'
                  go_simp
                  with_reducible rfl
                rotate_left
                · simp only [Act.put, List.setIfInBounds_toArray, List.set_cons_zero, List.set_cons_succ, i64_w, i32_w]
                  rfl
                refine pure_ (i := 1) (N := some 107) (v := ?_) (a' := ?_) #[true, true, false, false, false, false, false, false, false, false, false, false, false, false, false, false, false] rfl rfl (by kernel_rfl) (fun _ _ _ h => h) (Or.inl ⟨by rfl, ?_⟩) ?_ ?_
                rotate_left
                · intro w'
                  go_simp
                  with_reducible rfl
                rotate_left
                · simp only [Act.put, List.setIfInBounds_toArray, List.set_cons_zero, List.set_cons_succ, i64_w, i32_w]
                  rfl
                refine pure_ (i := 2) (N := some 108) (v := ?_) (a' := ?_) #[true, true, true, false, false, false, false, false, false, false, false, false, false, false, false, false, false] rfl rfl (by kernel_rfl) (fun _ _ _ h => h) (Or.inl ⟨by rfl, ?_⟩) ?_ ?_
                rotate_left
                · intro w'
                  go_simp
                  with_reducible rfl
                rotate_left
                · simp only [Act.put, List.setIfInBounds_toArray, List.set_cons_zero, List.set_cons_succ, i64_w, i32_w]
                  rfl
                refine pure_ (i := 4) (N := some 110) (v := ?_) (a' := ?_) #[true, true, true, false, true, false, false, false, false, false, false, false, false, false, false, false, false] rfl rfl (by kernel_rfl) (fun _ _ _ h => h) (Or.inl ⟨by rfl, ?_⟩) ?_ ?_
                rotate_left
                · intro w'
                  go_simp
                  with_reducible rfl
                rotate_left
                · simp only [Act.put, List.setIfInBounds_toArray, List.set_cons_zero, List.set_cons_succ, i64_w, i32_w]
                  rfl
                refine pure_ (i := 7) (N := some 113) (v := ?_) (a' := ?_) #[true, true, true, false, true, false, false, true, false, false, false, false, false, false, false, false, false] rfl rfl (by kernel_rfl) (fun _ _ _ h => h) (Or.inl ⟨by rfl, ?_⟩) ?_ ?_
                rotate_left
                · intro w'
                  go_simp
                  with_reducible rfl
                rotate_left
                · simp only [Act.put, List.setIfInBounds_toArray, List.set_cons_zero, List.set_cons_succ, i64_w, i32_w]
                  rfl
                refine pure_ (i := 8) (N := some 114) (v := ?_) (a' := ?_) #[true, true, true, false, true, false, false, true, true, false, false, false, false, false, false, false, false] rfl rfl (by kernel_rfl) (fun _ _ _ h => h) (Or.inl ⟨by rfl, ?_⟩) ?_ ?_
                rotate_left
                · intro w'
                  go_simp
                  with_reducible rfl
                rotate_left
                · simp only [Act.put, List.setIfInBounds_toArray, List.set_cons_zero, List.set_cons_succ, i64_w, i32_w]
                  rfl
                refine pure_ (i := 9) (N := some 115) (v := ?_) (a' := ?_) #[true, true, true, false, true, false, false, true, true, true, false, false, false, false, false, false, false] rfl rfl (by kernel_rfl) (fun _ _ _ h => h) (Or.inl ⟨by rfl, ?_⟩) ?_ ?_
                rotate_left
                · intro w'
                  go_simp
                  with_reducible rfl
                rotate_left
                · simp only [Act.put, List.setIfInBounds_toArray, List.set_cons_zero, List.set_cons_succ, i64_w, i32_w]
                  rfl
                refine pure_ (i := 11) (N := some 117) (v := ?_) (a' := ?_) #[true, true, true, false, true, false, false, true, true, true, false, true, false, false, false, false, false] rfl rfl (by kernel_rfl) (fun _ _ _ h => h) (Or.inl ⟨by rfl, ?_⟩) ?_ ?_
                rotate_left
                · intro w'
                  go_simp
                  with_reducible rfl
                rotate_left
                · simp only [Act.put, List.setIfInBounds_toArray, List.set_cons_zero, List.set_cons_succ, i64_w, i32_w]
                  rfl
                refine take_ (i := 3) (N := some 109) (v := ?_) (a' := ?_) #[true, true, true, true, true, false, false, true, true, true, false, true, false, false, false, false, false] rfl rfl (by kernel_rfl) (fun _ _ _ h => h) (Or.inl ⟨by rfl, ?_⟩) hHeld ?_ ?_
                rotate_left
                · rintro w' ⟨s0, s1, s2, s3, s4⟩
                  go_simp
                  with_reducible rfl
                rotate_left
                · simp only [Act.put, List.setIfInBounds_toArray, List.set_cons_zero, List.set_cons_succ, i64_w, i32_w]
                  rfl
                refine pure_ (i := 5) (N := some 111) (v := ?_) (a' := ?_) #[true, true, true, true, true, true, false, true, true, true, false, true, false, false, false, false, false] rfl rfl (by kernel_rfl) (fun _ _ _ h => h) (Or.inl ⟨by rfl, ?_⟩) ?_ ?_
                rotate_left
                · intro w'
                  go_simp
                  with_reducible rfl
                rotate_left
                · simp only [Act.put, List.setIfInBounds_toArray, List.set_cons_zero, List.set_cons_succ, i64_w, i32_w]
                  rfl
                refine take_ (i := 6) (N := some 112) (v := ?_) (a' := ?_) #[true, true, true, true, true, true, true, true, true, true, false, true, false, false, false, false, false] rfl rfl (by kernel_rfl) (fun _ _ _ h => h) (Or.inl ⟨by rfl, ?_⟩) hHeld ?_ ?_
                rotate_left
                · rintro w' ⟨s0, s1, s2, s3, s4⟩
                  go_simp
                  with_reducible rfl
                rotate_left
                · simp only [Act.put, List.setIfInBounds_toArray, List.set_cons_zero, List.set_cons_succ, i64_w, i32_w]
                  rfl
                refine take_ (i := 10) (N := some 116) (v := ?_) (a' := ?_) #[true, true, true, true, true, true, true, true, true, true, true, true, false, false, false, false, false] rfl rfl (by kernel_rfl) (fun _ _ _ h => h) (Or.inl ⟨by rfl, ?_⟩) hHeld ?_ ?_
                rotate_left
                · rintro w' ⟨s0, s1, s2, s3, s4⟩
                  go_simp
                  with_reducible rfl
                rotate_left
                · simp only [Act.put, List.setIfInBounds_toArray, List.set_cons_zero, List.set_cons_succ, i64_w, i32_w]
                  rfl
                refine pure_ (i := 12) (N := some 118) (v := ?_) (a' := ?_) #[true, true, true, true, true, true, true, true, true, true, true, true, true, false, false, false, false] rfl rfl (by kernel_rfl) (fun _ _ _ h => h) (Or.inl ⟨by rfl, ?_⟩) ?_ ?_
                rotate_left
                · intro w'
                  go_simp
                  with_reducible rfl
                rotate_left
                · simp only [Act.put, List.setIfInBounds_toArray, List.set_cons_zero, List.set_cons_succ, i64_w, i32_w]
                  rfl
                refine take_ (i := 13) (N := some 119) (v := ?_) (a' := ?_) #[true, true, true, true, true, true, true, true, true, true, true, true, true, true, false, false, false] rfl rfl (by kernel_rfl) (fun _ _ _ h => h) (Or.inl ⟨by rfl, ?_⟩) hHeld ?_ ?_
                rotate_left
                · rintro w' ⟨s0, s1, s2, s3, s4⟩
                  go_simp
                  with_reducible rfl
                rotate_left
                · simp only [Act.put, List.setIfInBounds_toArray, List.set_cons_zero, List.set_cons_succ, i64_w, i32_w]
                  rfl
                refine pure_ (i := 14) (N := some 120) (v := ?_) (a' := ?_) #[true, true, true, true, true, true, true, true, true, true, true, true, true, true, true, false, false] rfl rfl (by kernel_rfl) (fun _ _ _ h => h) (Or.inl ⟨by rfl, ?_⟩) ?_ ?_
                rotate_left
                · intro w'
                  go_simp
                  with_reducible rfl
                rotate_left
                · simp only [Act.put, List.setIfInBounds_toArray, List.set_cons_zero, List.set_cons_succ, i64_w, i32_w]
                  rfl
                refine pure_ (i := 15) (N := some 121) (v := ?_) (a' := ?_) #[true, true, true, true, true, true, true, true, true, true, true, true, true, true, true, true, false] rfl rfl (by kernel_rfl) (fun _ _ _ h => h) (Or.inl ⟨by rfl, ?_⟩) ?_ ?_
                rotate_left
                · intro w'
                  go_simp
                  with_reducible rfl
                rotate_left
                · simp only [Act.put, List.setIfInBounds_toArray, List.set_cons_zero, List.set_cons_succ, i64_w, i32_w]
                  rfl
                refine last_ (i := 16) (N := none) #[true, true, true, true, true, true, true, true, true, true, true, true, true, true, true, true, true] rfl rfl (by kernel_rfl) (by decide) (fun K hK => ?_)
                have g0_ := hHeld.2.2.1
                have g1_ := hHeld.2.2.2.1
                refine skipN_ (w1 := ?_) (by rfl) rfl ?_ ?_
                rotate_left
                · go_simp
                  rfl
                intro w7 hw_
                have Hw7 := Aside0.mk (show InvG w0 w0.heap.size g (some ad) c0 l0 cut rising (lst ++ [(k : Int)]) (sums1.set k (wrap64 (y - xt))) σ5 (.slice (some ⟨gL, 0, none⟩) (lst.length + 1) cL) (.slice (some ⟨gs, 0, none⟩) cut cs) vb5 w7 from by rw [hw_]; exact (H5.out.setSum GS.out k (wrap64 (y - xt))).drew)
                clear hw_ g0_ g1_
                refine hK.out _ _ ?_
                clear hK K
                refine done_ (by kernel_rfl) ?_
                rw [HBK.out] at Hw7
                have q3 := Hw7.out.cell 3 _ rfl
                have f3 := blk_frozen Hw7.out.hg 3
                have hcap := (Kd.R_reads' Hw7.out.hl).2.1
                have HT := Aside0.mk (show RI w7 w0.heap.size g (.slice (some ⟨gL, 0, none⟩) lst.length cL) lst from by have := Kd.R_take (m := lst.length) Hw7.out.hl (by simp); rwa [List.take_left'] at this <;> rfl)
                have H8 := Aside0.mk (Hw7.out.setList HT.out Hw7.out.a1 Hw7.out.a2)
                have hlc : (lst.length : Int) ≤ (cL : Int) := by omega
                clear hHeld hsc hsf htc H5
                go_wp2_with fail
                go_roundg (cut - F - (i + 1))
                case measure => omega
                case rel => exact ⟨i + 1, by omega, by omega, by go_num, ⟨_, _, _, by rw [HS1.out]; exact H8.out⟩⟩
              · have hltz : ¬ (k : Int) < (cut : Int) := by omega
                obtain rfl : i = cut - F := by omega
                go_wp2
                go_end0
                rw [HE2.out, HFc.out]
                exact ⟨rfl, _, _, _, H1.out⟩
def giveC (t : List Int) (cut : Nat) (rising : Bool) : List Int × Int := giveM t cut rising t.length [] (List.replicate cut 0) 0 ([], -1)
def spec_l05Shared.f (l0 : List Int) (a1 : Int) (a2 : Bool) : Option (List Int × Int) := if 0 ≤ a1 ∧ a1 ≤ 1000 ∧ l0.length ≤ 1000 then some (giveC l0 a1.toNat a2) else none
set_option maxHeartbeats 1000000 in
theorem spec_l05Shared.calls (A0 : Option Addr) (c0 : Nat) (l0 : List Int) (a1 : Int) (a2 : Bool) (r1 : List Int) (r2 : Int) (w : World) (hr0 : Kd.C (Kd.int .i64) w A0 l0.length l0) (hc0 : l0.length ≤ c0) (h : spec_l05Shared.f l0 a1 a2 = some (r1, r2)) :
    Calls Try.prog 78 #[.slice A0 l0.length c0, .int .i64 a1, .bool a2] w fun e w' => ∃ v0_ : Value, e = .returned (.tuple #[v0_, .int .i64 r2]) ∧ Kd.R (Kd.int .i64) 2 w' w.heap.size (fun _ => True) v0_ r1 ∧ Below w.heap.size w w' := by
  unfold spec_l05Shared.f at h
  split at h
  · rename_i hc
    obtain ⟨cut, rfl⟩ := Int.eq_ofNat_of_zero_le hc.1
    rw [Int.toNat_natCast] at h
    have HR0 := Aside0.mk hr0
    have HC0 := Aside0.mk hc0
    have HCut := Aside0.mk (show cut ≤ 1000 by have := hc.2.1; omega)
    have HN := Aside0.mk hc.2.2
    have HG := Aside0.mk (Option.some.inj h)
    have h0 : (0 : Int) ≤ (cut : Int) := hc.1
    have HB := Aside0.mk (Below.refl w.heap.size w)
    clear hr0 hc0 h hc
    go_enter Try.func78, Try.ntmps78
    go_wp2_with (first | ((with_reducible refine gate_dst (N := 12) rfl ?_); refine Kd.R_lit (Kd.int .i64) _ 2 ?hg (N := 12) ?hd (xs := ([] : List Int)) (inner := []) (ok := fun _ => True) (okp := fun _ => True) ?hr ?hp (fun _ hk => hk) trivial (Below.refl _ _) (Nat.le_refl _) (by simp) ?_; (case hd => rfl); (case hg => rfl); (case hr => first | (go_simp; done) | (go_simp; rfl)); (case hp => exact (Reps.none _ _)); intro v12 w3 ho4 hb hg_ hnew_; clear hg_ hnew_; obtain ⟨Al, cl, el⟩ := Kd.R_slice ho4; subst el; have HO := Aside0.mk (Kd.R_lower ho4 (below_size HB.out)); have n1_ := Aside0.mk (below_step HB.out hb); clear HB; have HB := n1_; clear n1_; clear hb ho4) | ((with_reducible refine gate_dst (N := 14) rfl ?_); refine Kd.R_make (Kd.int .i64) _ 2 rfl (N := 14) rfl 48 _ _ rfl (cut : Int) rfl rfl Try.underlying48 (.int .i64 0) 8 info_i64 rfl (by decide) (by omega) 0 (ok := fun _ => True) (okp := fun _ => True) rfl (fun _ hk => hk) trivial h0 (by have := HCut.out; omega) (Below.refl _ _) (Nat.le_refl _) ?_; intro v14 w4 ho5 hb hg_ hnew_; clear hg_; rw [Int.toNat_natCast] at ho5; obtain ⟨As, cs, es⟩ := Kd.R_slice ho5; subst es; have HNW := Aside0.mk hnew_; have HS5 := Aside0.mk (Kd.R_lower ho5 (below_size HB.out)); have HO5 := Aside0.mk (Kd.R_below HO.out hb); have HLO := Aside0.mk (fun k (hk : (Value.slice Al ([] : List Int).length cl).ownBlock = some k) => ((Kd.R_bound HO.out).1 k hk).2.2.1); have n1_ := Aside0.mk (below_step HB.out hb); clear HB HO hnew_; have HB := n1_; clear n1_; clear hb ho5))
    have HI := Aside0.mk (show InvG w w.heap.size w4.heap.size A0 c0 l0 cut a2 [] (List.replicate cut 0) ([], -1) (.slice Al 0 cl) (.slice As (List.replicate cut (0 : Int)).length cs) (.slice none 0 0) (w4.alloc (.cells #[.slice A0 l0.length c0, .int .i64 (cut : Int), .bool a2, .slice Al 0 cl, .slice As (List.replicate cut (0 : Int)).length cs, .slice none 0 0, .int .i64 (-1)] 118 (0, 0))) from
      ⟨blk_new w4 _, Kd.R_alloc (Kd.R_mono (Kd.R_bound HO5.out) (fun k hk e => by have h2 : k < w4.heap.size := hk.2.2.1; omega)) _, Kd.R_alloc (Kd.R_mono (Kd.R_bound HS5.out) (fun k hk e => by have h2 : k < w4.heap.size := hk.2.2.1; omega)) _, Kd.R_nil _ _ _ _ _,
        fun k hk e => by have := HLO.out k hk; obtain ⟨b, hb1, hb2⟩ := HNW.out; rw [e] at hb1; injection hb1 with hb1; omega, fun k hk e => by simp [Value.ownBlock] at e, fun k hk e => by simp [Value.ownBlock] at e, below_alloc HB.out _, below_size HB.out⟩)
    rw [show (List.replicate cut (0 : Int)).length = cut by simp] at HI
    refine (give_calls w w4.heap.size A0 c0 l0 cut a2 HR0 HC0 HN HCut l0.length [] (List.replicate cut 0) 0 ([], -1) _ _ _ _ ⟨by simp⟩ ⟨fun y hy => absurd hy (by simp)⟩ ⟨by simp⟩ ⟨fun y hy => by rw [(List.mem_replicate.1 hy).2]; unfold wrap64; omega⟩ HI).mono ?_
    rintro e w5 ⟨rfl, vl, vs, vb, h5⟩
    have hE : giveM l0 cut a2 l0.length [] (List.replicate cut 0) 0 ([], -1) = (r1, r2) := HG.out
    rw [hE] at h5
    clear hE
    obtain ⟨Ab, cb, eb⟩ := Kd.R_slice h5.hb
    subst eb
    have c5 := h5.cell 5 _ rfl
    have c6 := h5.cell 6 _ rfl
    have HRb := Aside0.mk (Kd.R_mono h5.hb (fun k _ => trivial))
    have HB5 := Aside0.mk h5.bel
    clear h5 HI
    go_wp2_with fail
    go_quiet (fail)
    go_wp2_with fail
    go_ret2
    exact ⟨_, rfl, (by (with_reducible repeat (first | apply Kd.R_alloc | apply Kd.R_drewN | apply Kd.R_drew)); exact HRb.out), (by repeat (first | (with_reducible first | exact HB5.out | apply below_alloc | apply pw_below_drewN | apply below_drew1) | exact HB5.out))⟩
  · cases h
end Go.Proofs.Ytgfjmamjfkcmbaa.Ext
