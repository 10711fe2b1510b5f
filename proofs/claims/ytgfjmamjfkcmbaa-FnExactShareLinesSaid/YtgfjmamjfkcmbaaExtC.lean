/- impl.ShareAny by hand: its closure goes through all sharings. -/
import Derived.Test.YtgfjmamjfkcmbaaExtBox
import Derived.Test.YtgfjmamjfkcmbaaPureTimes
namespace Go.Proofs.Ytgfjmamjfkcmbaa.Ext
open Go.RowKit Go.Proofs.YtgfjmamjfkcmbaaW.PrintWords Go.Proofs.YtgfjmamjfkcmbaaW.PrintLast Go.Proofs.YtgfjmamjfkcmbaaW.PrintMore Go.Proofs.Ytgfjmamjfkcmbaa.Q Go.Proofs.Ytgfjmamjfkcmbaa.Pure
set_option linter.unusedVariables false
set_option linter.unusedSimpArgs false

/-! ### What it computes -/
def mostS (sums : List Int) : Int := foldMax (sums ++ [0])
def updS (lst sums : List Int) (σ : List Int × Int) : List Int × Int := if σ.2 < 0 ∨ mostS sums < σ.2 then (lst, mostS sums) else σ
def grownS (sums : List Int) (k : Nat) : List Int := if k = sums.length then sums ++ [0] else sums
def nextS (t sums : List Int) (p k : Nat) : List Int := (grownS sums k).set k (wrap64 (rd (grownS sums k) k + rd t p))
def chooseS (t : List Int) (cut : Nat) : Nat → List Int → List Int → List Int × Int → List Int × Int
  | 0, lst, sums, σ => updS lst sums σ
  | r + 1, lst, sums, σ => (List.range (min (sums.length + 1) cut)).foldl (fun σ (k : Nat) => chooseS t cut r (lst ++ [(k : Int)]) (nextS t sums lst.length k) σ) σ
def stepS (t : List Int) (cut r : Nat) (lst sums : List Int) (σ : List Int × Int) (k : Nat) : List Int × Int := chooseS t cut r (lst ++ [(k : Int)]) (nextS t sums lst.length k) σ
theorem chooseS_succ (t : List Int) (cut r : Nat) (lst sums : List Int) (σ : List Int × Int) : chooseS t cut (r + 1) lst sums σ = (List.range (min (sums.length + 1) cut)).foldl (stepS t cut r lst sums) σ := rfl
theorem grownS_len (sums : List Int) (k : Nat) : (grownS sums k).length ≤ sums.length + 1 := by unfold grownS; split <;> simp
theorem skipN_ {P : Program} {ops : Array Oper} {Q : Exit → Act → World → Prop} {oi : Oper} {a : Act} {w w1 : World} {K : Act → World → Prop} (hw : Region.wanted oi (yielded ops a.tmps) = true) (hN : oi.dst = none) (hrun : (execOp a.eval oi).run P w = .ok .skip w1)
    (h : ∀ w2, w2 = w1 → K a w2) : if Region.wanted oi (yielded ops a.tmps) = true then Oper.wp P oi a w K Q else K (a.put none undef) w := skip_ hw hN hrun (h w1 rfl)

theorem foldMax_n (A : Option Addr) (n c : Nat) (l : List Int) (hn : l.length = n) (w : World) (hr : Kd.C (Kd.int .i64) w A l.length l) (h0 : 0 < l.length) :
    Calls Try.prog 73 #[.slice A n c] w fun e w' => e = .returned (.int .i64 (foldMax l)) ∧ w = w' := by
  subst hn
  exact foldMax_calls A c l w hr h0
def lbS (gt gl gb gq gc : Nat) : Array Value := #[.pointer (some ⟨gt, 0, none⟩), .pointer (some ⟨gl, 0, none⟩), .pointer (some ⟨gb, 0, none⟩), .pointer (some ⟨gq, 0, none⟩), .pointer (some ⟨gc, 0, none⟩)]
abbrev InvS (w0 : World) (B gt gq gl gb gc : Nat) (A0 : Option Addr) (c0 : Nat) (l0 : List Int) (cut : Nat) (σ : List Int × Int) (w : World) : Prop :=
  InvB w0 B gt gq gl gb gc (.slice A0 l0.length c0) (.int .i64 (cut : Int)) (.func (.func 79) #[] (lbS gt gl gb gq gc)) 2 97 σ w
set_option maxRecDepth 100000 in
set_option maxHeartbeats 1000000 in
theorem share_calls (w0 : World) (gt gq gl gb gc : Nat) (A0 : Option Addr) (c0 : Nat) (l0 : List Int) (cut : Nat)
    (HR0 : Aside0 (Kd.C (Kd.int .i64) w0 A0 l0.length l0)) (hc0 : Aside0 (l0.length ≤ c0)) (HN : Aside0 (l0.length ≤ 8)) (HCut : Aside0 (cut ≤ 6))
    (D : Aside0 (DistB w0.heap.size gt gq gl gb gc)) : ∀ (r : Nat) (lst : List Int) (A : Option Addr) (c : Nat) (sums : List Int) (As : Option Addr) (cs : Nat) (σ : List Int × Int) (w : World), Aside0 (lst.length + r = l0.length) → Aside0 (sums.length ≤ lst.length) → Aside0 (lst.length ≤ c) → Aside0 (sums.length ≤ cs) →
      Aside0 (InvS w0 w0.heap.size gt gq gl gb gc A0 c0 l0 cut σ w) → Aside0 (Kd.R (Kd.int .i64) 2 w w0.heap.size (okF gl gb) (.slice A lst.length c) lst) → Aside0 (Kd.R (Kd.int .i64) 2 w w0.heap.size (okF gl gb) (.slice As sums.length cs) sums) →
      Calls Try.prog 79 #[.slice A lst.length c, .slice As sums.length cs, .pointer (some ⟨gt, 0, none⟩), .pointer (some ⟨gl, 0, none⟩), .pointer (some ⟨gb, 0, none⟩), .pointer (some ⟨gq, 0, none⟩), .pointer (some ⟨gc, 0, none⟩)] w
        fun e w' => e = .returned (.tuple #[]) ∧ InvS w0 w0.heap.size gt gq gl gb gc A0 c0 l0 cut (chooseS l0 cut r lst sums σ) w' ∧ Kept w w' (wrF gl gb) := by
  intro r
  induction r with
  | zero =>
    intro lst A c sums As cs σ w HO HSL HC HCs HV HR HRs
    have h1 : ((lst.length : Int) == (l0.length : Int)) = true := by have := HO.out; rw [beq_iff_eq]; omega
    have ht := cell_of HV.out.ht
    have HNL : Aside0 (sums.length ≤ 8) := ⟨by have := HSL.out; have := HO.out; have := HN.out; omega⟩
    go_enter Try.func79, Try.ntmps79
    go_wp2_with fail
    refine (clone_calls As cs sums w (Kd.R_reads' HRs.out).2.2 (by have := HNL.out; omega)).mono ?_
    rintro e w1 ⟨v18, rfl, ho, hb⟩
    have HO18 := Aside0.mk ho
    have HB := Aside0.mk hb
    clear ho hb ht
    go_wp2_with (first | ((with_reducible refine gate_builtin (b := .append) (xs := #[.tmp 18, .tmp 19]) rfl ?_); at_builtin; refine Kd.R_append (Kd.int .i64) (w0 := w) w.heap.size rfl (.tmp 18) (.tmp 19) 48 2 (.int .i64 0) 8 rfl Try.underlying48 info_i64 rfl (by decide) (by omega) v18 sums (0 : Int) [.int .i64 0] (fun _ => True) (fun _ => False) rfl rfl ?aP (fun _ hk => hk.elim) ?aF ?aO ?aB ?aS ?aL ?_; (case aP => exact rfl); (case aB => exact HB.out); (case aF => exact (fun _ _ => trivial)); (case aO => exact HO18.out); (case aS => exact (below_size HB.out)); (case aL => have := HNL.out; omega); intro v20 w2 ho hb hg' hat; clear hg' hat; obtain ⟨A20, c20, rfl, _, hC20⟩ := Kd.R_reads ho; have HC20 := Aside0.mk hC20; have HB2 := Aside0.mk hb; clear HB HO18 ho hb hC20))
    refine (foldMax_n A20 _ c20 (sums ++ [0]) (by simp) _ HC20.out (by simp)).mono ?_
    rintro e w3 ⟨rfl, rfl⟩
    have HV2 := Aside0.mk (HV.out.below HB2.out (below_size HV.out.bel))
    have HR2 := Aside0.mk (Kd.R_below HR.out HB2.out)
    have HK := Aside0.mk (kept_below (gl := gl) (gb := gb) HB2.out)
    clear HB2 HC20
    have hcl := cell_of HV2.out.hl
    have hfl := blk_frozen HV2.out.hl 0
    obtain ⟨vb, hb_, _⟩ := HV2.out.hb
    have hcb := cell_of hb_
    have hfb := blk_frozen hb_ 0
    have hcl2 : (w2.setCell ⟨gb, 0, none⟩ (.slice A lst.length c)).cell? ⟨gl, 0, none⟩ = some (.int .i64 σ.2) := cell_of ((Below.heap_setCell _ _ _ _ D.out.g).trans HV2.out.hl)
    have hfl2 : (w2.setCell ⟨gb, 0, none⟩ (.slice A lst.length c)).frozen? ⟨gl, 0, none⟩ = false := blk_frozen ((Below.heap_setCell _ _ _ _ D.out.g).trans HV2.out.hl) 0
    clear hb_
    have HE := Aside0.mk (show chooseS l0 cut 0 lst sums σ = if σ.2 < 0 ∨ foldMax (sums ++ [0]) < σ.2 then (lst, foldMax (sums ++ [0])) else σ from rfl)
    generalize foldMax (sums ++ [0]) = N at *
    obtain ⟨s, hs⟩ : ∃ s, σ.2 = s := ⟨_, rfl⟩
    rw [hs] at hcl hcl2 HE
    clear hs
    by_cases c1 : s < 0
    · have d1 : decide (s < 0) = true := decide_eq_true c1
      clear c1
      go_wp2
      refine bodyPost_ret (results_none rfl _ _ _) rfl ?_
      rw [HE.out, if_pos (Or.inl (of_decide_eq_true d1))]
      exact ⟨rfl, HV2.out.store D.out _ HR2.out, kept_trans HK.out (kept_store _ _)⟩
    · have d1 : decide (s < 0) = false := decide_eq_false c1
      clear c1
      by_cases c2 : N < s
      · have d2 : decide (N < s) = true := decide_eq_true c2
        clear c2
        go_wp2
        refine bodyPost_ret (results_none rfl _ _ _) rfl ?_
        rw [HE.out, if_pos (Or.inr (of_decide_eq_true d2))]
        exact ⟨rfl, HV2.out.store D.out _ HR2.out, kept_trans HK.out (kept_store _ _)⟩
      · have d2 : decide (N < s) = false := decide_eq_false c2
        clear c2
        go_wp2
        refine bodyPost_ret (results_none rfl _ _ _) rfl ?_
        rw [HE.out, if_neg (by rintro (h | h); exact absurd h (of_decide_eq_false d1); exact absurd h (of_decide_eq_false d2))]
        exact ⟨rfl, HV2.out, HK.out⟩
  | succ r ih =>
    intro lst A c sums As cs σ w HO HSL HC HCs HV HR HRs
    have hl8 : l0.length ≤ 8 := HN.out
    have HNL : Aside0 (sums.length ≤ lst.length) := HSL
    have hs8 : sums.length ≤ 8 := by have := HSL.out; have := HO.out; omega
    have hcut6 : cut ≤ 6 := HCut.out
    have h1 : ((lst.length : Int) == (l0.length : Int)) = false := by have := HO.out; rw [beq_eq_false_iff_ne]; omega
    have ht := cell_of HV.out.ht
    obtain ⟨ad, eA, _⟩ := Kd.at_int HR0.out (lst.length : Int) (by omega) (by have := HO.out; omega)
    subst eA
    go_enter Try.func79, Try.ntmps79
    go_wp2_with fail
    clear ht h1
    refine start_ (n := 6) (S := fun w' => w'.cell? ⟨gq, 0, none⟩ = some (.int .i64 (cut : Int)) ∧ Below w.heap.size w w') (ds := []) #[false, false, false, false, false, false] (by kernel_rfl) rfl rfl ⟨(cellB HV.out.hd (below_drew (Below.refl _ _))), (below_drew (Below.refl _ _))⟩ (fun hHeld => ?_)
    refine pure_ (i := 0) (N := some 31) (v := ?_) (a' := ?_) #[true, false, false, false, false, false] rfl rfl (by kernel_rfl) (fun _ _ _ h => h) (Or.inl ⟨by rfl, ?_⟩) ?_ ?_
    rotate_left
    · intro w'
      go_simp
      with_reducible rfl
    rotate_left
    · simp only [Act.put, List.setIfInBounds_toArray, List.set_cons_zero, List.set_cons_succ, i64_w, i32_w]
      rfl
    refine pure_ (i := 5) (N := some 36) (v := ?_) (a' := ?_) #[true, false, false, false, false, true] rfl rfl (by kernel_rfl) (fun _ _ _ h => h) (Or.inl ⟨by rfl, ?_⟩) ?_ ?_
    rotate_left
    · intro w'
      go_simp
      with_reducible rfl
    rotate_left
    · simp only [Act.put, List.setIfInBounds_toArray, List.set_cons_zero, List.set_cons_succ, i64_w, i32_w]
      rfl
    refine take_ (i := 3) (N := some 34) (v := ?_) (a' := ?_) #[true, false, false, true, false, true] rfl rfl (by kernel_rfl) (fun _ _ _ h => h) (Or.inl ⟨by rfl, ?_⟩) hHeld ?_ ?_
    rotate_left
    · rintro w' ⟨s0, s1⟩
      go_simp
      with_reducible rfl
    rotate_left
    · simp only [Act.put, List.setIfInBounds_toArray, List.set_cons_zero, List.set_cons_succ, i64_w, i32_w]
      rfl
    refine one_ (i := 1) (N := some 32) #[true, true, false, true, false, true] rfl rfl (by kernel_rfl) (by decide) (fun K hK => ?_)
    refine goes_ Try.func81 (by kernel_rfl) rfl #[.slice As sums.length cs] (by rfl) rfl rfl (by simp only [List.map_toArray, List.map_cons, List.map_nil]; rfl) ?_
    with_reducible refine ((size_calls As _ cs _)).mono ?_
    rintro e w3 ⟨rfl, rfl⟩
    refine ⟨_, rfl, ?_⟩
    refine hK.out _ _ ⟨hHeld.1, hHeld.2⟩ (fun hHeld => ?_)
    clear hK K
    refine norm_ (a' := ?_) ?_ ?_
    rotate_left
    · show Act.put _ (some 32) _ = _
      simp only [Act.put, List.setIfInBounds_toArray, List.set_cons_zero, List.set_cons_succ, i64_w, i32_w]
      rfl
    refine pure_ (i := 2) (N := some 33) (v := ?_) (a' := ?_) #[true, true, true, true, false, true] rfl rfl (by kernel_rfl) (fun _ _ _ h => h) (Or.inl ⟨by rfl, ?_⟩) ?_ ?_
    rotate_left
    · intro w'
      go_simp
      with_reducible rfl
    rotate_left
    · simp only [Act.put, List.setIfInBounds_toArray, List.set_cons_zero, List.set_cons_succ, i64_w, i32_w]
      rfl
    refine pure_ (i := 4) (N := some 35) (v := ?_) (a' := ?_) #[true, true, true, true, true, true] rfl rfl (by kernel_rfl) (fun _ _ _ h => h) (Or.inl ⟨by rfl, ?_⟩) ?_ ?_
    rotate_left
    · intro w'
      go_simp
      with_reducible rfl
    rotate_left
    · simp only [Act.put, List.setIfInBounds_toArray, List.set_cons_zero, List.set_cons_succ, i64_w, i32_w]
      rfl
    refine done_ (by kernel_rfl) ?_
    obtain ⟨M, hM⟩ : ∃ M, min (sums.length + 1) cut = M := ⟨_, rfl⟩
    have hm : (if (cut : Int) < wrap64 ((sums.length : Int) + 1) then (cut : Int) else wrap64 ((sums.length : Int) + 1)) = (M : Int) := by
      rw [wrap_succ _ (by omega)]
      split <;> omega
    have hM1 : M ≤ sums.length + 1 := by omega
    have hM2 : M ≤ cut := by omega
    have HM := Aside0.mk hM
    rw [hm]
    clear hm hM hHeld
    go_wp2_with fail
    go_loopg [10, 11, 36] M (fun gg _ _ s36 wr => ∃ k : Nat, k ≤ M ∧ M - k ≤ gg ∧ s36 = .int .i64 k ∧ Aside0 (InvS w0 w0.heap.size gt gq gl gb gc (some ad) c0 l0 cut ((List.range k).foldl (stepS l0 cut r lst sums) σ) wr) ∧ Aside0 (Kept w wr (wrF gl gb)))
    case atStart => exact ⟨0, by omega, by omega, rfl, ⟨HV.out.below (below_drew (Below.refl _ _)) (below_size HV.out.bel)⟩, ⟨kept_below (below_drew (Below.refl _ _))⟩⟩
    case round =>
      obtain ⟨k, hk, hg, rfl, HV1, HK⟩ := hrel
      by_cases hlt : k < M
      · have hltz : (k : Int) < (M : Int) := by omega
        have HR1 := Aside0.mk (R_kept HR.out HK.out)
        have HRs1 := Aside0.mk (R_kept HRs.out HK.out)
        have HS := Aside0.mk (fold_succ (stepS l0 cut r lst sums) σ k)
        generalize (List.range k).foldl (stepS l0 cut r lst sums) σ = σi at HV1 HS
        have HCo := Aside0.mk (Kd.R_reads' HR1.out).2.2
        have HCs1 := Aside0.mk (Kd.R_reads' HRs1.out).2.2
        go_wp2_with fail
        refine (clone_calls As cs sums _ HCs1.out (by omega)).mono ?_
        rintro e w4 ⟨v40, rfl, ho, hb⟩
        obtain ⟨A40, cn, rfl, _, _⟩ := Kd.R_reads ho
        have HO40 := Aside0.mk ho
        have HB4 := Aside0.mk hb
        clear ho hb
        go_wp2_with fail
        refine (size_calls As _ cs _).mono ?_
        rintro e w3 ⟨rfl, rfl⟩
        obtain ⟨xt, hxt⟩ : ∃ xt, rd l0 (lst.length : Int) = xt := ⟨_, rfl⟩
        by_cases heq : k = sums.length
        · have hb0 : ((k : Int) == (sums.length : Int)) = true := by rw [beq_iff_eq]; omega
          have HNX0 := Aside0.mk (show grownS sums k = sums ++ [0] from if_pos heq)
          have HKL := Aside0.mk (show k < sums.length + 1 by omega)
          clear heq
          go_wp2_with (first | ((with_reducible refine gate_builtin (b := .append) (xs := #[.tmp 45, .tmp 46]) rfl ?_); at_builtin; refine Kd.R_append (Kd.int .i64) (w0 := wr) wr.heap.size rfl (.tmp 45) (.tmp 46) 48 2 (.int .i64 0) 8 rfl Try.underlying48 info_i64 rfl (by decide) (by omega) _ sums (0 : Int) [.int .i64 0] (fun _ => True) (fun _ => False) rfl rfl ?aP (fun _ hk => hk.elim) ?aF ?aO ?aB ?aS ?aL ?_; (case aP => exact rfl); (case aB => exact HB4.out); (case aF => exact (fun _ _ => trivial)); (case aO => exact HO40.out); (case aS => exact (below_size HB4.out)); (case aL => omega); intro v47 w5 ho hb hg' hat; clear hg' hat; obtain ⟨gn, cn, rfl, gb9, _⟩ := Kd.R_form ho (by simp); have HNX := Aside0.mk ho; have HB5 := Aside0.mk hb; have GN := Aside0.mk gb9; clear HB4 HO40 ho hb gb9))
          clear hb0
          obtain ⟨nx, hnx⟩ : ∃ nx, sums ++ [0] = nx := ⟨_, rfl⟩
          obtain ⟨L, hnl0⟩ : ∃ L, sums.length + 1 = L := ⟨_, rfl⟩
          have hnl : nx.length = L := by rw [← hnx, ← hnl0]; simp
          rw [hnx] at HNX HNX0
          rw [hnl] at HNX
          (first | rw [show Value.slice (some ⟨gn, 0, none⟩) (sums.length + 1) cn = Value.slice (some ⟨gn, 0, none⟩) L cn by rw [hnl0]] | rw [hnx, hnl] | simp only [hnx, hnl])
          have hL9 : k < L ∧ L ≤ lst.length + 1 := by have := HNL.out; have := HKL.out; omega
          obtain ⟨xn, hxn⟩ : ∃ xn, rd nx (k : Int) = xn := ⟨_, rfl⟩
          obtain ⟨hcn, hfn⟩ := Kd.R_celln 0 HNX.out (k : Int) (by omega) (by omega)
          change _ = some (Value.int .i64 (rd nx (k : Int))) at hcn
          rw [hxn, Int.toNat_natCast] at hcn
          rw [Int.toNat_natCast] at hfn
          have HV5 := Aside0.mk (HV1.out.below HB5.out (below_size HV1.out.bel))
          have hct0 := (Kd.at_int (Kd.C_below HR0.out HV5.out.bel) (lst.length : Int) (by omega) (by have := HO.out; omega))
          obtain ⟨ad', ea, hct⟩ := hct0
          injection ea with ea
          subst ea
          rw [hxt, Int.toNat_natCast] at hct
          have hll : (lst.length : Int) < (l0.length : Int) := by have := HO.out; omega
          have hkn : (k : Int) < (L : Int) := by omega
          have HLL := Aside0.mk (show (nx.set k (wrap64 (xn + xt))).length = L by rw [List.length_set]; exact hnl)
          have HNXE := Aside0.mk (show nextS l0 sums lst.length k = nx.set k (wrap64 (xn + xt)) by unfold nextS; rw [HNX0.out, hxn, hxt])
          replace HS : Aside0 ((List.range (k + 1)).foldl (stepS l0 cut r lst sums) σ = chooseS l0 cut r (lst ++ [(k : Int)]) (nextS l0 sums lst.length k) σi) := ⟨HS.out⟩
          have HNL2 := Aside0.mk (show (nx.set k (wrap64 (xn + xt))).length ≤ lst.length + 1 by rw [List.length_set]; omega)
          clear hxn hxt hnx HNX0 hnl hnl0
          refine start_ (n := 12) (S := fun w' => w'.cell? ⟨gn, k, none⟩ = some (.int .i64 xn) ∧ w'.frozen? ⟨gn, k, none⟩ = false ∧ w'.cell? ⟨gt, 0, none⟩ = some (.slice (some ad) l0.length c0) ∧ w'.cell? (ad.add lst.length) = some (.int .i64 xt) ∧ Below w5.heap.size w5 w' ∧ Kd.R (Kd.int .i64) 2 w' wr.heap.size (fun _ => True) (.slice (some ⟨gn, 0, none⟩) L cn) nx) (ds := [11]) #[false, false, false, false, false, false, false, false, false, false, false, false] (by kernel_rfl) rfl rfl ⟨hcn, hfn, (cellB (HV5.out.ht) (below_drew (Below.refl _ _))), hct, (below_drew (Below.refl _ _)), (Kd.R_drew HNX.out)⟩ (fun hHeld => ?_)
          refine pure_ (i := 0) (N := some 48) (v := ?_) (a' := ?_) #[true, false, false, false, false, false, false, false, false, false, false, false] rfl rfl (by kernel_rfl) (fun _ _ _ h => h) (Or.inl ⟨by rfl, ?_⟩) ?_ ?_
          rotate_left
          · intro w'
            go_simp
            with_reducible rfl
          rotate_left
          · simp only [Act.put, List.setIfInBounds_toArray, List.set_cons_zero, List.set_cons_succ, i64_w, i32_w]
            rfl
          refine pure_ (i := 1) (N := some 49) (v := ?_) (a' := ?_) #[true, true, false, false, false, false, false, false, false, false, false, false] rfl rfl (by kernel_rfl) (fun _ _ _ h => h) (Or.inl ⟨by rfl, ?_⟩) ?_ ?_
          rotate_left
          · intro w'
            go_simp
            with_reducible rfl
          rotate_left
          · simp only [Act.put, List.setIfInBounds_toArray, List.set_cons_zero, List.set_cons_succ, i64_w, i32_w]
            rfl
          refine pure_ (i := 2) (N := some 50) (v := ?_) (a' := ?_) #[true, true, true, false, false, false, false, false, false, false, false, false] rfl rfl (by kernel_rfl) (fun _ _ _ h => h) (Or.inl ⟨by rfl, ?_⟩) ?_ ?_
          rotate_left
          · intro w'
            go_simp
            with_reducible rfl
          rotate_left
          · simp only [Act.put, List.setIfInBounds_toArray, List.set_cons_zero, List.set_cons_succ, i64_w, i32_w]
            rfl
          refine pure_ (i := 5) (N := some 53) (v := ?_) (a' := ?_) #[true, true, true, false, false, true, false, false, false, false, false, false] rfl rfl (by kernel_rfl) (fun _ _ _ h => h) (Or.inl ⟨by rfl, ?_⟩) ?_ ?_
          rotate_left
          · intro w'
            go_simp
            with_reducible rfl
          rotate_left
          · simp only [Act.put, List.setIfInBounds_toArray, List.set_cons_zero, List.set_cons_succ, i64_w, i32_w]
            rfl
          refine pure_ (i := 6) (N := some 54) (v := ?_) (a' := ?_) #[true, true, true, false, false, true, true, false, false, false, false, false] rfl rfl (by kernel_rfl) (fun _ _ _ h => h) (Or.inl ⟨by rfl, ?_⟩) ?_ ?_
          rotate_left
          · intro w'
            go_simp
            with_reducible rfl
          rotate_left
          · simp only [Act.put, List.setIfInBounds_toArray, List.set_cons_zero, List.set_cons_succ, i64_w, i32_w]
            rfl
          refine take_ (i := 3) (N := some 51) (v := ?_) (a' := ?_) #[true, true, true, true, false, true, true, false, false, false, false, false] rfl rfl (by kernel_rfl) (fun _ _ _ h => h) (Or.inl ⟨by rfl, ?_⟩) hHeld ?_ ?_
          rotate_left
          · rintro w' ⟨s0, s1, s2, s3, s4, s5⟩
            go_simp
            with_reducible rfl
          rotate_left
          · simp only [Act.put, List.setIfInBounds_toArray, List.set_cons_zero, List.set_cons_succ, i64_w, i32_w]
            rfl
          refine take_ (i := 4) (N := some 52) (v := ?_) (a' := ?_) #[true, true, true, true, true, true, true, false, false, false, false, false] rfl rfl (by kernel_rfl) (fun _ _ _ h => h) (Or.inl ⟨by rfl, ?_⟩) hHeld ?_ ?_
          rotate_left
          · rintro w' ⟨s0, s1, s2, s3, s4, s5⟩
            go_simp
            with_reducible rfl
          rotate_left
          · simp only [Act.put, List.setIfInBounds_toArray, List.set_cons_zero, List.set_cons_succ, i64_w, i32_w]
            rfl
          refine pure_ (i := 7) (N := some 55) (v := ?_) (a' := ?_) #[true, true, true, true, true, true, true, true, false, false, false, false] rfl rfl (by kernel_rfl) (fun _ _ _ h => h) (Or.inl ⟨by rfl, ?_⟩) ?_ ?_
          rotate_left
          · intro w'
            go_simp
            with_reducible rfl
          rotate_left
          · simp only [Act.put, List.setIfInBounds_toArray, List.set_cons_zero, List.set_cons_succ, i64_w, i32_w]
            rfl
          refine take_ (i := 8) (N := some 56) (v := ?_) (a' := ?_) #[true, true, true, true, true, true, true, true, true, false, false, false] rfl rfl (by kernel_rfl) (fun _ _ _ h => h) (Or.inl ⟨by rfl, ?_⟩) hHeld ?_ ?_
          rotate_left
          · rintro w' ⟨s0, s1, s2, s3, s4, s5⟩
            go_simp
            with_reducible rfl
          rotate_left
          · simp only [Act.put, List.setIfInBounds_toArray, List.set_cons_zero, List.set_cons_succ, i64_w, i32_w]
            rfl
          refine pure_ (i := 9) (N := some 57) (v := ?_) (a' := ?_) #[true, true, true, true, true, true, true, true, true, true, false, false] rfl rfl (by kernel_rfl) (fun _ _ _ h => h) (Or.inl ⟨by rfl, ?_⟩) ?_ ?_
          rotate_left
          · intro w'
            go_simp
            with_reducible rfl
          rotate_left
          · simp only [Act.put, List.setIfInBounds_toArray, List.set_cons_zero, List.set_cons_succ, i64_w, i32_w]
            rfl
          refine pure_ (i := 10) (N := some 58) (v := ?_) (a' := ?_) #[true, true, true, true, true, true, true, true, true, true, true, false] rfl rfl (by kernel_rfl) (fun _ _ _ h => h) (Or.inl ⟨by rfl, ?_⟩) ?_ ?_
          rotate_left
          · intro w'
            go_simp
            with_reducible rfl
          rotate_left
          · simp only [Act.put, List.setIfInBounds_toArray, List.set_cons_zero, List.set_cons_succ, i64_w, i32_w]
            rfl
          refine last_ (i := 11) (N := none) #[true, true, true, true, true, true, true, true, true, true, true, true] rfl rfl (by kernel_rfl) (by decide) (fun K hK => ?_)
          have g0_ := hHeld.1
          have g1_ := hHeld.2.1
          refine skipN_ (w1 := ?_) (by rfl) rfl ?_ ?_
          rotate_left
          · go_simp
            rfl
          intro w7 hw7
          have HN7 := Aside0.mk (show Kd.R (Kd.int .i64) 2 w7 wr.heap.size (fun _ => True) (.slice (some ⟨gn, 0, none⟩) L cn) (nx.set k (wrap64 (xn + xt))) from by rw [hw7]; exact (Kd.R_putg hHeld.2.2.2.2.2 (k : Int) (wrap64 (xn + xt))).1)
          have HB7 := Aside0.mk (show Below wr.heap.size wr w7 from by rw [hw7]; exact below_set (HB5.out.trans (hHeld.2.2.2.2.1.mono (below_size HB5.out))) GN.out)
          refine hK.out _ _ ?_
          clear hK K
          refine done_ (by kernel_rfl) ?_
          have HV7 := Aside0.mk (HV1.out.below HB7.out (below_size HV1.out.bel))
          have HC7 := Aside0.mk (Kd.C_below HCo.out HB7.out)
          clear hw7 hcn hfn hct HNX HV5 HB5
          go_wp2_with fail
          refine start_ (n := 8) (S := fun w' => w'.cell? ⟨gc, 0, none⟩ = some (.func (.func 79) #[] (lbS gt gl gb gq gc)) ∧ Kd.C (Kd.int .i64) w' A lst.length lst ∧ Below w7.heap.size w7 w') (ds := [7]) #[false, false, false, false, false, false, false, false] (by kernel_rfl) rfl rfl ⟨(cellB HV7.out.hc (below_drew (Below.refl _ _))), (Kd.C_below HC7.out (below_drew (Below.refl _ _))), (below_drew (Below.refl _ _))⟩ (fun hHeld => ?_)
          refine pure_ (i := 1) (N := some 60) (v := ?_) (a' := ?_) #[false, true, false, false, false, false, false, false] rfl rfl (by kernel_rfl) (fun _ _ _ h => h) (Or.inl ⟨by rfl, ?_⟩) ?_ ?_
          rotate_left
          · intro w'
            go_simp
            with_reducible rfl
          rotate_left
          · simp only [Act.put, List.setIfInBounds_toArray, List.set_cons_zero, List.set_cons_succ, i64_w, i32_w]
            rfl
          refine pure_ (i := 3) (N := some 62) (v := ?_) (a' := ?_) #[false, true, false, true, false, false, false, false] rfl rfl (by kernel_rfl) (fun _ _ _ h => h) (Or.inl ⟨by rfl, ?_⟩) ?_ ?_
          rotate_left
          · intro w'
            go_simp
            with_reducible rfl
          rotate_left
          · simp only [Act.put, List.setIfInBounds_toArray, List.set_cons_zero, List.set_cons_succ, i64_w, i32_w]
            rfl
          refine pure_ (i := 6) (N := some 65) (v := ?_) (a' := ?_) #[false, true, false, true, false, false, true, false] rfl rfl (by kernel_rfl) (fun _ _ _ h => h) (Or.inl ⟨by rfl, ?_⟩) ?_ ?_
          rotate_left
          · intro w'
            go_simp
            with_reducible rfl
          rotate_left
          · simp only [Act.put, List.setIfInBounds_toArray, List.set_cons_zero, List.set_cons_succ, i64_w, i32_w]
            rfl
          refine take_ (i := 0) (N := some 59) (v := ?_) (a' := ?_) #[true, true, false, true, false, false, true, false] rfl rfl (by kernel_rfl) (fun _ _ _ h => h) (Or.inl ⟨by rfl, ?_⟩) hHeld ?_ ?_
          rotate_left
          · rintro w' ⟨s0, s1, s2⟩
            go_simp
            with_reducible rfl
          rotate_left
          · simp only [Act.put, List.setIfInBounds_toArray, List.set_cons_zero, List.set_cons_succ, i64_w, i32_w]
            rfl
          refine join_ (σ := Value × Value) 2 #[true, true, true, true, true, false, true, false] (fun s => [(61, s.1), (63, s.2)]) (fun s w' => (w'.cell? ⟨gc, 0, none⟩ = some (.func (.func 79) #[] (lbS gt gl gb gq gc)) ∧ Kd.C (Kd.int .i64) w' A lst.length lst ∧ Below w7.heap.size w7 w') ∧ Kd.R (Kd.int .i64) 2 w' w7.heap.size (fun _ => True) s.1 lst ∧ ∃ A cc, s.2 = .slice A 1 cc ∧ Kd.C (Kd.int .i64) w' A 1 [(k : Int)]) ?_ ?_
          rotate_left
          · intro hCont
            refine two_ (i := 2) (j := 4) (Ni := some 61) (Nj := some 63) #[true, true, true, true, false, false, true, false] #[true, true, false, true, true, false, true, false] rfl rfl rfl rfl (by kernel_rfl) (by decide) (by decide) (fun K hK => ?_) (fun K hK => ?_)
            · skip
              have hLow := hHeld.2.2
              refine goes_ Try.func80 (by kernel_rfl) rfl #[.slice A lst.length c] (by rfl) rfl rfl (by simp only [List.map_toArray, List.map_cons, List.map_nil]; rfl) ?_
              with_reducible refine ((clone_calls A c lst _ hHeld.2.1 (by have := HN.out; have := HO.out; omega))).mono ?_
              rintro e w3 ⟨v61, rfl, ho, hb⟩
              refine ⟨_, rfl, ?_⟩
              refine hK.out _ _ ⟨(cellB HV7.out.hc (below_step hHeld.2.2 hb)), (Kd.C_below HC7.out (below_step hHeld.2.2 hb)), (below_step hHeld.2.2 hb)⟩ (fun hHeld => ?_)
              clear hK K
              refine norm_ (a' := ?_) ?_ ?_
              rotate_left
              · show Act.put _ (some 61) _ = _
                simp only [Act.put, List.setIfInBounds_toArray, List.set_cons_zero, List.set_cons_succ, i64_w, i32_w]
                rfl
              refine one_ (i := 4) (N := some 63) #[true, true, true, true, true, false, true, false] rfl rfl (by kernel_rfl) (by decide) (fun K hK => ?_)
              refine value_ (w1 := ?_) (v := ?_) (by rfl) rfl ?_ ?_
              rotate_left 2
              · go_simp
                constructor
                · rfl
                · rfl
              refine hK.out _ _ ⟨(cellB HV7.out.hc (below_alloc hHeld.2.2 _)), (Kd.C_below HC7.out (below_alloc hHeld.2.2 _)), (below_alloc hHeld.2.2 _)⟩ (fun hHeld => ?_)
              clear hK K
              refine norm_ (a' := ?_) ?_ ?_
              rotate_left
              · show Act.put _ (some 63) _ = _
                simp only [Act.put, List.setIfInBounds_toArray, List.set_cons_zero, List.set_cons_succ, i64_w, i32_w]
                rfl
              exact norm_ (by simp only [putAll, Act.put, List.setIfInBounds_toArray, List.set_cons_zero, List.set_cons_succ]) (hCont (v61, .slice (some ⟨w3.heap.size, 0, none⟩) 1 1) _ ⟨hHeld, Kd.R_alloc (Kd.R_lower ho (below_size hLow)) _, ⟨_, _, rfl, reads_new1 _ _ _ rfl _⟩⟩)
            · skip
              refine value_ (w1 := ?_) (v := ?_) (by rfl) rfl ?_ ?_
              rotate_left 2
              · go_simp
                constructor
                · rfl
                · rfl
              refine hK.out _ _ ⟨(cellB HV7.out.hc (below_alloc hHeld.2.2 _)), (Kd.C_below HC7.out (below_alloc hHeld.2.2 _)), (below_alloc hHeld.2.2 _)⟩ (fun hHeld => ?_)
              clear hK K
              refine norm_ (a' := ?_) ?_ ?_
              rotate_left
              · show Act.put _ (some 63) _ = _
                simp only [Act.put, List.setIfInBounds_toArray, List.set_cons_zero, List.set_cons_succ, i64_w, i32_w]
                rfl
              refine one_ (i := 2) (N := some 61) #[true, true, true, true, true, false, true, false] rfl rfl (by kernel_rfl) (by decide) (fun K hK => ?_)
              have hLow := hHeld.2.2
              refine goes_ Try.func80 (by kernel_rfl) rfl #[.slice A lst.length c] (by rfl) rfl rfl (by simp only [List.map_toArray, List.map_cons, List.map_nil]; rfl) ?_
              with_reducible refine ((clone_calls A c lst _ hHeld.2.1 (by have := HN.out; have := HO.out; omega))).mono ?_
              rintro e w3 ⟨v61, rfl, ho, hb⟩
              refine ⟨_, rfl, ?_⟩
              refine hK.out _ _ ⟨(cellB HV7.out.hc (below_step hHeld.2.2 hb)), (Kd.C_below HC7.out (below_step hHeld.2.2 hb)), (below_step hHeld.2.2 hb)⟩ (fun hHeld => ?_)
              clear hK K
              refine norm_ (a' := ?_) ?_ ?_
              rotate_left
              · show Act.put _ (some 61) _ = _
                simp only [Act.put, List.setIfInBounds_toArray, List.set_cons_zero, List.set_cons_succ, i64_w, i32_w]
                rfl
              exact norm_ (by simp only [putAll, Act.put, List.setIfInBounds_toArray, List.set_cons_zero, List.set_cons_succ]) (hCont (v61, .slice (some ⟨w7.heap.size, 0, none⟩) 1 1) _ ⟨hHeld, Kd.R_lower ho (below_size hLow), ⟨_, _, rfl, Kd.C_below (Kd.C_drew (reads_new1 _ _ _ (by simp) _)) hb⟩⟩)
          rintro ⟨v61, v63⟩ w' ⟨hHeld, hO, A2, cc, e63, hC⟩
          dsimp only at e63
          subst e63
          refine norm_ (a' := ?_) ?_ ?_
          rotate_left
          · simp only [putAll, Act.put, List.setIfInBounds_toArray, List.set_cons_zero, List.set_cons_succ]
            rfl
          refine one_ (i := 5) (N := some 64) #[true, true, true, true, true, true, true, false] rfl rfl (by kernel_rfl) (by decide) (fun K hK => ?_)
          refine Kd.R_append_rows_step (Kd.int .i64) (Rr := (Kd.int .i64).K w') (w0 := w7) w7.heap.size (by rfl) (.tmp 61) (.tmp 63) 48 2 (.int .i64 0) 8 rfl Try.underlying48 info_i64 rfl (by decide) (by omega) v61 lst [(k : Int)] A2 1 cc (fun _ => True) (fun _ => False) rfl rfl hO hC (fun _ _ h => h) (fun _ h => h.elim) (fun _ _ => trivial) hHeld.2.2 (below_size hHeld.2.2) (by have := HN.out; have := HO.out; omega) ?_
          intro v64 w4 ho4 hb4 hg4 hat4
          refine hK.out _ _ ⟨(cellB HV7.out.hc hb4), (Kd.C_below HC7.out hb4), hb4⟩ (fun hHeld => ?_)
          clear hK K
          refine norm_ (a' := ?_) ?_ ?_
          rotate_left
          · show Act.put _ (some 64) _ = _
            simp only [Act.put, List.setIfInBounds_toArray, List.set_cons_zero, List.set_cons_succ, i64_w, i32_w]
            rfl
          refine last_ (i := 7) (N := some 66) #[true, true, true, true, true, true, true, true] rfl rfl (by kernel_rfl) (by decide) (fun K hK => ?_)
          obtain ⟨A64, c64, rfl, hc64, hC64⟩ := Kd.R_reads ho4
          refine call_ 79 #[.slice A64 (lst ++ [(k : Int)]).length c64, .slice (some ⟨gn, 0, none⟩) L cn, .pointer (some ⟨gt, 0, none⟩), .pointer (some ⟨gl, 0, none⟩), .pointer (some ⟨gb, 0, none⟩), .pointer (some ⟨gq, 0, none⟩), .pointer (some ⟨gc, 0, none⟩)] (by rfl) rfl ?_ ?_
          · have he := enters_of Try.func79 (by kernel_rfl) rfl
            unfold execOp
            simp [resolve, Deferred.ofValue, invoke, Act.eval, lbS, he]
          obtain ⟨hLL⟩ : Aside0 ((nx.set k (wrap64 (xn + xt))).length = L) := HLL
          subst hLL
          refine (ih (lst ++ [(k : Int)]) A64 c64 (nx.set k (wrap64 (xn + xt))) (some ⟨gn, 0, none⟩) cn σi w4 ⟨by have := HO.out; simp; omega⟩ ⟨by have := HNL2.out; rw [List.length_append]; exact this⟩ ⟨hc64⟩ ⟨by have := (Kd.R_reads' HN7.out).2.1; exact this⟩ ⟨HV7.out.below hb4 (below_size HV7.out.bel)⟩ ⟨R_fresh ho4 (below_size HV7.out.bel) HV7.out.fresh⟩ ⟨R_fresh (Kd.R_below HN7.out hb4) (below_size HV1.out.bel) HV1.out.fresh⟩).mono ?_
          rintro e w8 ⟨rfl, HI8, HK8⟩
          refine ⟨_, rfl, ?_⟩
          refine hK.out _ _ ?_
          clear hK K
          refine norm_ (a' := ?_) ?_ ?_
          rotate_left
          · show Act.put _ (some 66) _ = _
            simp only [Act.put, List.setIfInBounds_toArray, List.set_cons_zero, List.set_cons_succ, i64_w, i32_w]
            rfl
          refine done_ (by kernel_rfl) ?_
          go_wp2_with fail
          go_roundg (M - (k + 1))
          case measure => omega
          case rel => exact ⟨k + 1, by omega, by omega, by go_num, ⟨by rw [HS.out, HNXE.out]; exact HI8⟩, ⟨kept_trans HK.out (kept_trans (kept_below HB7.out) (kept_trans (kept_below hb4) HK8))⟩⟩
        · have hb0 : ((k : Int) == (sums.length : Int)) = false := by rw [beq_eq_false_iff_ne]; omega
          have HNX0 := Aside0.mk (show grownS sums k = sums from if_neg heq)
          have HKL := Aside0.mk (show k < sums.length by omega)
          clear heq
          obtain ⟨gn, c41, e40, gb9, _⟩ := Kd.R_form HO40.out (by have := HKL.out; omega)
          injection e40 with e1 e2 e3
          subst e1 e3
          obtain ⟨w5, hw5⟩ : ∃ w5, w5 = w4 := ⟨_, rfl⟩
          subst hw5
          have HNX := HO40
          have HB5 := HB4
          have GN := Aside0.mk gb9
          clear HO40 HB4 gb9
          go_wp2_with fail
          clear hb0
          obtain ⟨L, hnl0⟩ : ∃ L, sums.length = L := ⟨_, rfl⟩
          obtain ⟨nx, hnx⟩ : ∃ nx, sums = nx := ⟨_, rfl⟩
          have hnl : nx.length = L := by rw [← hnx, ← hnl0]
          have hL9 : k < L ∧ L ≤ lst.length + 1 := by have := HNL.out; have := HKL.out; omega
          rw [show Value.slice (some ⟨gn, 0, none⟩) sums.length cn = Value.slice (some ⟨gn, 0, none⟩) L cn by rw [hnl0]]
          rw [hnl0] at HNX
          replace HNX0 := Aside0.mk (HNX0.out.trans hnx)
          replace HNX : Aside0 (Kd.R (Kd.int .i64) 2 w5 wr.heap.size (fun _ => True) (.slice (some ⟨gn, 0, none⟩) L cn) nx) := ⟨by rw [← hnx]; exact HNX.out⟩
          obtain ⟨xn, hxn⟩ : ∃ xn, rd nx (k : Int) = xn := ⟨_, rfl⟩
          obtain ⟨hcn, hfn⟩ := Kd.R_celln 0 HNX.out (k : Int) (by omega) (by omega)
          change _ = some (Value.int .i64 (rd nx (k : Int))) at hcn
          rw [hxn, Int.toNat_natCast] at hcn
          rw [Int.toNat_natCast] at hfn
          have HV5 := Aside0.mk (HV1.out.below HB5.out (below_size HV1.out.bel))
          have hct0 := (Kd.at_int (Kd.C_below HR0.out HV5.out.bel) (lst.length : Int) (by omega) (by have := HO.out; omega))
          obtain ⟨ad', ea, hct⟩ := hct0
          injection ea with ea
          subst ea
          rw [hxt, Int.toNat_natCast] at hct
          have hll : (lst.length : Int) < (l0.length : Int) := by have := HO.out; omega
          have hkn : (k : Int) < (L : Int) := by omega
          have HLL := Aside0.mk (show (nx.set k (wrap64 (xn + xt))).length = L by rw [List.length_set]; exact hnl)
          have HNXE := Aside0.mk (show nextS l0 sums lst.length k = nx.set k (wrap64 (xn + xt)) by unfold nextS; rw [HNX0.out, hxn, hxt])
          replace HS : Aside0 ((List.range (k + 1)).foldl (stepS l0 cut r lst sums) σ = chooseS l0 cut r (lst ++ [(k : Int)]) (nextS l0 sums lst.length k) σi) := ⟨HS.out⟩
          have HNL2 := Aside0.mk (show (nx.set k (wrap64 (xn + xt))).length ≤ lst.length + 1 by rw [List.length_set]; omega)
          clear hxn hxt hnx HNX0 hnl hnl0
          refine start_ (n := 12) (S := fun w' => w'.cell? ⟨gn, k, none⟩ = some (.int .i64 xn) ∧ w'.frozen? ⟨gn, k, none⟩ = false ∧ w'.cell? ⟨gt, 0, none⟩ = some (.slice (some ad) l0.length c0) ∧ w'.cell? (ad.add lst.length) = some (.int .i64 xt) ∧ Below w5.heap.size w5 w' ∧ Kd.R (Kd.int .i64) 2 w' wr.heap.size (fun _ => True) (.slice (some ⟨gn, 0, none⟩) L cn) nx) (ds := [11]) #[false, false, false, false, false, false, false, false, false, false, false, false] (by kernel_rfl) rfl rfl ⟨hcn, hfn, (cellB (HV5.out.ht) (below_drew (Below.refl _ _))), hct, (below_drew (Below.refl _ _)), (Kd.R_drew HNX.out)⟩ (fun hHeld => ?_)
          refine pure_ (i := 0) (N := some 48) (v := ?_) (a' := ?_) #[true, false, false, false, false, false, false, false, false, false, false, false] rfl rfl (by kernel_rfl) (fun _ _ _ h => h) (Or.inl ⟨by rfl, ?_⟩) ?_ ?_
          rotate_left
          · intro w'
            go_simp
            with_reducible rfl
          rotate_left
          · simp only [Act.put, List.setIfInBounds_toArray, List.set_cons_zero, List.set_cons_succ, i64_w, i32_w]
            rfl
          refine pure_ (i := 1) (N := some 49) (v := ?_) (a' := ?_) #[true, true, false, false, false, false, false, false, false, false, false, false] rfl rfl (by kernel_rfl) (fun _ _ _ h => h) (Or.inl ⟨by rfl, ?_⟩) ?_ ?_
          rotate_left
          · intro w'
            go_simp
            with_reducible rfl
          rotate_left
          · simp only [Act.put, List.setIfInBounds_toArray, List.set_cons_zero, List.set_cons_succ, i64_w, i32_w]
            rfl
          refine pure_ (i := 2) (N := some 50) (v := ?_) (a' := ?_) #[true, true, true, false, false, false, false, false, false, false, false, false] rfl rfl (by kernel_rfl) (fun _ _ _ h => h) (Or.inl ⟨by rfl, ?_⟩) ?_ ?_
          rotate_left
          · intro w'
            go_simp
            with_reducible rfl
          rotate_left
          · simp only [Act.put, List.setIfInBounds_toArray, List.set_cons_zero, List.set_cons_succ, i64_w, i32_w]
            rfl
          refine pure_ (i := 5) (N := some 53) (v := ?_) (a' := ?_) #[true, true, true, false, false, true, false, false, false, false, false, false] rfl rfl (by kernel_rfl) (fun _ _ _ h => h) (Or.inl ⟨by rfl, ?_⟩) ?_ ?_
          rotate_left
          · intro w'
            go_simp
            with_reducible rfl
          rotate_left
          · simp only [Act.put, List.setIfInBounds_toArray, List.set_cons_zero, List.set_cons_succ, i64_w, i32_w]
            rfl
          refine pure_ (i := 6) (N := some 54) (v := ?_) (a' := ?_) #[true, true, true, false, false, true, true, false, false, false, false, false] rfl rfl (by kernel_rfl) (fun _ _ _ h => h) (Or.inl ⟨by rfl, ?_⟩) ?_ ?_
          rotate_left
          · intro w'
            go_simp
            with_reducible rfl
          rotate_left
          · simp only [Act.put, List.setIfInBounds_toArray, List.set_cons_zero, List.set_cons_succ, i64_w, i32_w]
            rfl
          refine take_ (i := 3) (N := some 51) (v := ?_) (a' := ?_) #[true, true, true, true, false, true, true, false, false, false, false, false] rfl rfl (by kernel_rfl) (fun _ _ _ h => h) (Or.inl ⟨by rfl, ?_⟩) hHeld ?_ ?_
          rotate_left
          · rintro w' ⟨s0, s1, s2, s3, s4, s5⟩
            go_simp
            with_reducible rfl
          rotate_left
          · simp only [Act.put, List.setIfInBounds_toArray, List.set_cons_zero, List.set_cons_succ, i64_w, i32_w]
            rfl
          refine take_ (i := 4) (N := some 52) (v := ?_) (a' := ?_) #[true, true, true, true, true, true, true, false, false, false, false, false] rfl rfl (by kernel_rfl) (fun _ _ _ h => h) (Or.inl ⟨by rfl, ?_⟩) hHeld ?_ ?_
          rotate_left
          · rintro w' ⟨s0, s1, s2, s3, s4, s5⟩
            go_simp
            with_reducible rfl
          rotate_left
          · simp only [Act.put, List.setIfInBounds_toArray, List.set_cons_zero, List.set_cons_succ, i64_w, i32_w]
            rfl
          refine pure_ (i := 7) (N := some 55) (v := ?_) (a' := ?_) #[true, true, true, true, true, true, true, true, false, false, false, false] rfl rfl (by kernel_rfl) (fun _ _ _ h => h) (Or.inl ⟨by rfl, ?_⟩) ?_ ?_
          rotate_left
          · intro w'
            go_simp
            with_reducible rfl
          rotate_left
          · simp only [Act.put, List.setIfInBounds_toArray, List.set_cons_zero, List.set_cons_succ, i64_w, i32_w]
            rfl
          refine take_ (i := 8) (N := some 56) (v := ?_) (a' := ?_) #[true, true, true, true, true, true, true, true, true, false, false, false] rfl rfl (by kernel_rfl) (fun _ _ _ h => h) (Or.inl ⟨by rfl, ?_⟩) hHeld ?_ ?_
          rotate_left
          · rintro w' ⟨s0, s1, s2, s3, s4, s5⟩
            go_simp
            with_reducible rfl
          rotate_left
          · simp only [Act.put, List.setIfInBounds_toArray, List.set_cons_zero, List.set_cons_succ, i64_w, i32_w]
            rfl
          refine pure_ (i := 9) (N := some 57) (v := ?_) (a' := ?_) #[true, true, true, true, true, true, true, true, true, true, false, false] rfl rfl (by kernel_rfl) (fun _ _ _ h => h) (Or.inl ⟨by rfl, ?_⟩) ?_ ?_
          rotate_left
          · intro w'
            go_simp
            with_reducible rfl
          rotate_left
          · simp only [Act.put, List.setIfInBounds_toArray, List.set_cons_zero, List.set_cons_succ, i64_w, i32_w]
            rfl
          refine pure_ (i := 10) (N := some 58) (v := ?_) (a' := ?_) #[true, true, true, true, true, true, true, true, true, true, true, false] rfl rfl (by kernel_rfl) (fun _ _ _ h => h) (Or.inl ⟨by rfl, ?_⟩) ?_ ?_
          rotate_left
          · intro w'
            go_simp
            with_reducible rfl
          rotate_left
          · simp only [Act.put, List.setIfInBounds_toArray, List.set_cons_zero, List.set_cons_succ, i64_w, i32_w]
            rfl
          refine last_ (i := 11) (N := none) #[true, true, true, true, true, true, true, true, true, true, true, true] rfl rfl (by kernel_rfl) (by decide) (fun K hK => ?_)
          have g0_ := hHeld.1
          have g1_ := hHeld.2.1
          refine skipN_ (w1 := ?_) (by rfl) rfl ?_ ?_
          rotate_left
          · go_simp
            rfl
          intro w7 hw7
          have HN7 := Aside0.mk (show Kd.R (Kd.int .i64) 2 w7 wr.heap.size (fun _ => True) (.slice (some ⟨gn, 0, none⟩) L cn) (nx.set k (wrap64 (xn + xt))) from by rw [hw7]; exact (Kd.R_putg hHeld.2.2.2.2.2 (k : Int) (wrap64 (xn + xt))).1)
          have HB7 := Aside0.mk (show Below wr.heap.size wr w7 from by rw [hw7]; exact below_set (HB5.out.trans (hHeld.2.2.2.2.1.mono (below_size HB5.out))) GN.out)
          refine hK.out _ _ ?_
          clear hK K
          refine done_ (by kernel_rfl) ?_
          have HV7 := Aside0.mk (HV1.out.below HB7.out (below_size HV1.out.bel))
          have HC7 := Aside0.mk (Kd.C_below HCo.out HB7.out)
          clear hw7 hcn hfn hct HNX HV5 HB5
          go_wp2_with fail
          refine start_ (n := 8) (S := fun w' => w'.cell? ⟨gc, 0, none⟩ = some (.func (.func 79) #[] (lbS gt gl gb gq gc)) ∧ Kd.C (Kd.int .i64) w' A lst.length lst ∧ Below w7.heap.size w7 w') (ds := [7]) #[false, false, false, false, false, false, false, false] (by kernel_rfl) rfl rfl ⟨(cellB HV7.out.hc (below_drew (Below.refl _ _))), (Kd.C_below HC7.out (below_drew (Below.refl _ _))), (below_drew (Below.refl _ _))⟩ (fun hHeld => ?_)
          refine pure_ (i := 1) (N := some 60) (v := ?_) (a' := ?_) #[false, true, false, false, false, false, false, false] rfl rfl (by kernel_rfl) (fun _ _ _ h => h) (Or.inl ⟨by rfl, ?_⟩) ?_ ?_
          rotate_left
          · intro w'
            go_simp
            with_reducible rfl
          rotate_left
          · simp only [Act.put, List.setIfInBounds_toArray, List.set_cons_zero, List.set_cons_succ, i64_w, i32_w]
            rfl
          refine pure_ (i := 3) (N := some 62) (v := ?_) (a' := ?_) #[false, true, false, true, false, false, false, false] rfl rfl (by kernel_rfl) (fun _ _ _ h => h) (Or.inl ⟨by rfl, ?_⟩) ?_ ?_
          rotate_left
          · intro w'
            go_simp
            with_reducible rfl
          rotate_left
          · simp only [Act.put, List.setIfInBounds_toArray, List.set_cons_zero, List.set_cons_succ, i64_w, i32_w]
            rfl
          refine pure_ (i := 6) (N := some 65) (v := ?_) (a' := ?_) #[false, true, false, true, false, false, true, false] rfl rfl (by kernel_rfl) (fun _ _ _ h => h) (Or.inl ⟨by rfl, ?_⟩) ?_ ?_
          rotate_left
          · intro w'
            go_simp
            with_reducible rfl
          rotate_left
          · simp only [Act.put, List.setIfInBounds_toArray, List.set_cons_zero, List.set_cons_succ, i64_w, i32_w]
            rfl
          refine take_ (i := 0) (N := some 59) (v := ?_) (a' := ?_) #[true, true, false, true, false, false, true, false] rfl rfl (by kernel_rfl) (fun _ _ _ h => h) (Or.inl ⟨by rfl, ?_⟩) hHeld ?_ ?_
          rotate_left
          · rintro w' ⟨s0, s1, s2⟩
            go_simp
            with_reducible rfl
          rotate_left
          · simp only [Act.put, List.setIfInBounds_toArray, List.set_cons_zero, List.set_cons_succ, i64_w, i32_w]
            rfl
          refine join_ (σ := Value × Value) 2 #[true, true, true, true, true, false, true, false] (fun s => [(61, s.1), (63, s.2)]) (fun s w' => (w'.cell? ⟨gc, 0, none⟩ = some (.func (.func 79) #[] (lbS gt gl gb gq gc)) ∧ Kd.C (Kd.int .i64) w' A lst.length lst ∧ Below w7.heap.size w7 w') ∧ Kd.R (Kd.int .i64) 2 w' w7.heap.size (fun _ => True) s.1 lst ∧ ∃ A cc, s.2 = .slice A 1 cc ∧ Kd.C (Kd.int .i64) w' A 1 [(k : Int)]) ?_ ?_
          rotate_left
          · intro hCont
            refine two_ (i := 2) (j := 4) (Ni := some 61) (Nj := some 63) #[true, true, true, true, false, false, true, false] #[true, true, false, true, true, false, true, false] rfl rfl rfl rfl (by kernel_rfl) (by decide) (by decide) (fun K hK => ?_) (fun K hK => ?_)
            · skip
              have hLow := hHeld.2.2
              refine goes_ Try.func80 (by kernel_rfl) rfl #[.slice A lst.length c] (by rfl) rfl rfl (by simp only [List.map_toArray, List.map_cons, List.map_nil]; rfl) ?_
              with_reducible refine ((clone_calls A c lst _ hHeld.2.1 (by have := HN.out; have := HO.out; omega))).mono ?_
              rintro e w3 ⟨v61, rfl, ho, hb⟩
              refine ⟨_, rfl, ?_⟩
              refine hK.out _ _ ⟨(cellB HV7.out.hc (below_step hHeld.2.2 hb)), (Kd.C_below HC7.out (below_step hHeld.2.2 hb)), (below_step hHeld.2.2 hb)⟩ (fun hHeld => ?_)
              clear hK K
              refine norm_ (a' := ?_) ?_ ?_
              rotate_left
              · show Act.put _ (some 61) _ = _
                simp only [Act.put, List.setIfInBounds_toArray, List.set_cons_zero, List.set_cons_succ, i64_w, i32_w]
                rfl
              refine one_ (i := 4) (N := some 63) #[true, true, true, true, true, false, true, false] rfl rfl (by kernel_rfl) (by decide) (fun K hK => ?_)
              refine value_ (w1 := ?_) (v := ?_) (by rfl) rfl ?_ ?_
              rotate_left 2
              · go_simp
                constructor
                · rfl
                · rfl
              refine hK.out _ _ ⟨(cellB HV7.out.hc (below_alloc hHeld.2.2 _)), (Kd.C_below HC7.out (below_alloc hHeld.2.2 _)), (below_alloc hHeld.2.2 _)⟩ (fun hHeld => ?_)
              clear hK K
              refine norm_ (a' := ?_) ?_ ?_
              rotate_left
              · show Act.put _ (some 63) _ = _
                simp only [Act.put, List.setIfInBounds_toArray, List.set_cons_zero, List.set_cons_succ, i64_w, i32_w]
                rfl
              exact norm_ (by simp only [putAll, Act.put, List.setIfInBounds_toArray, List.set_cons_zero, List.set_cons_succ]) (hCont (v61, .slice (some ⟨w3.heap.size, 0, none⟩) 1 1) _ ⟨hHeld, Kd.R_alloc (Kd.R_lower ho (below_size hLow)) _, ⟨_, _, rfl, reads_new1 _ _ _ rfl _⟩⟩)
            · skip
              refine value_ (w1 := ?_) (v := ?_) (by rfl) rfl ?_ ?_
              rotate_left 2
              · go_simp
                constructor
                · rfl
                · rfl
              refine hK.out _ _ ⟨(cellB HV7.out.hc (below_alloc hHeld.2.2 _)), (Kd.C_below HC7.out (below_alloc hHeld.2.2 _)), (below_alloc hHeld.2.2 _)⟩ (fun hHeld => ?_)
              clear hK K
              refine norm_ (a' := ?_) ?_ ?_
              rotate_left
              · show Act.put _ (some 63) _ = _
                simp only [Act.put, List.setIfInBounds_toArray, List.set_cons_zero, List.set_cons_succ, i64_w, i32_w]
                rfl
              refine one_ (i := 2) (N := some 61) #[true, true, true, true, true, false, true, false] rfl rfl (by kernel_rfl) (by decide) (fun K hK => ?_)
              have hLow := hHeld.2.2
              refine goes_ Try.func80 (by kernel_rfl) rfl #[.slice A lst.length c] (by rfl) rfl rfl (by simp only [List.map_toArray, List.map_cons, List.map_nil]; rfl) ?_
              with_reducible refine ((clone_calls A c lst _ hHeld.2.1 (by have := HN.out; have := HO.out; omega))).mono ?_
              rintro e w3 ⟨v61, rfl, ho, hb⟩
              refine ⟨_, rfl, ?_⟩
              refine hK.out _ _ ⟨(cellB HV7.out.hc (below_step hHeld.2.2 hb)), (Kd.C_below HC7.out (below_step hHeld.2.2 hb)), (below_step hHeld.2.2 hb)⟩ (fun hHeld => ?_)
              clear hK K
              refine norm_ (a' := ?_) ?_ ?_
              rotate_left
              · show Act.put _ (some 61) _ = _
                simp only [Act.put, List.setIfInBounds_toArray, List.set_cons_zero, List.set_cons_succ, i64_w, i32_w]
                rfl
              exact norm_ (by simp only [putAll, Act.put, List.setIfInBounds_toArray, List.set_cons_zero, List.set_cons_succ]) (hCont (v61, .slice (some ⟨w7.heap.size, 0, none⟩) 1 1) _ ⟨hHeld, Kd.R_lower ho (below_size hLow), ⟨_, _, rfl, Kd.C_below (Kd.C_drew (reads_new1 _ _ _ (by simp) _)) hb⟩⟩)
          rintro ⟨v61, v63⟩ w' ⟨hHeld, hO, A2, cc, e63, hC⟩
          dsimp only at e63
          subst e63
          refine norm_ (a' := ?_) ?_ ?_
          rotate_left
          · simp only [putAll, Act.put, List.setIfInBounds_toArray, List.set_cons_zero, List.set_cons_succ]
            rfl
          refine one_ (i := 5) (N := some 64) #[true, true, true, true, true, true, true, false] rfl rfl (by kernel_rfl) (by decide) (fun K hK => ?_)
          refine Kd.R_append_rows_step (Kd.int .i64) (Rr := (Kd.int .i64).K w') (w0 := w7) w7.heap.size (by rfl) (.tmp 61) (.tmp 63) 48 2 (.int .i64 0) 8 rfl Try.underlying48 info_i64 rfl (by decide) (by omega) v61 lst [(k : Int)] A2 1 cc (fun _ => True) (fun _ => False) rfl rfl hO hC (fun _ _ h => h) (fun _ h => h.elim) (fun _ _ => trivial) hHeld.2.2 (below_size hHeld.2.2) (by have := HN.out; have := HO.out; omega) ?_
          intro v64 w4 ho4 hb4 hg4 hat4
          refine hK.out _ _ ⟨(cellB HV7.out.hc hb4), (Kd.C_below HC7.out hb4), hb4⟩ (fun hHeld => ?_)
          clear hK K
          refine norm_ (a' := ?_) ?_ ?_
          rotate_left
          · show Act.put _ (some 64) _ = _
            simp only [Act.put, List.setIfInBounds_toArray, List.set_cons_zero, List.set_cons_succ, i64_w, i32_w]
            rfl
          refine last_ (i := 7) (N := some 66) #[true, true, true, true, true, true, true, true] rfl rfl (by kernel_rfl) (by decide) (fun K hK => ?_)
          obtain ⟨A64, c64, rfl, hc64, hC64⟩ := Kd.R_reads ho4
          refine call_ 79 #[.slice A64 (lst ++ [(k : Int)]).length c64, .slice (some ⟨gn, 0, none⟩) L cn, .pointer (some ⟨gt, 0, none⟩), .pointer (some ⟨gl, 0, none⟩), .pointer (some ⟨gb, 0, none⟩), .pointer (some ⟨gq, 0, none⟩), .pointer (some ⟨gc, 0, none⟩)] (by rfl) rfl ?_ ?_
          · have he := enters_of Try.func79 (by kernel_rfl) rfl
            unfold execOp
            simp [resolve, Deferred.ofValue, invoke, Act.eval, lbS, he]
          obtain ⟨hLL⟩ : Aside0 ((nx.set k (wrap64 (xn + xt))).length = L) := HLL
          subst hLL
          refine (ih (lst ++ [(k : Int)]) A64 c64 (nx.set k (wrap64 (xn + xt))) (some ⟨gn, 0, none⟩) cn σi w4 ⟨by have := HO.out; simp; omega⟩ ⟨by have := HNL2.out; rw [List.length_append]; exact this⟩ ⟨hc64⟩ ⟨by have := (Kd.R_reads' HN7.out).2.1; exact this⟩ ⟨HV7.out.below hb4 (below_size HV7.out.bel)⟩ ⟨R_fresh ho4 (below_size HV7.out.bel) HV7.out.fresh⟩ ⟨R_fresh (Kd.R_below HN7.out hb4) (below_size HV1.out.bel) HV1.out.fresh⟩).mono ?_
          rintro e w8 ⟨rfl, HI8, HK8⟩
          refine ⟨_, rfl, ?_⟩
          refine hK.out _ _ ?_
          clear hK K
          refine norm_ (a' := ?_) ?_ ?_
          rotate_left
          · show Act.put _ (some 66) _ = _
            simp only [Act.put, List.setIfInBounds_toArray, List.set_cons_zero, List.set_cons_succ, i64_w, i32_w]
            rfl
          refine done_ (by kernel_rfl) ?_
          go_wp2_with fail
          go_roundg (M - (k + 1))
          case measure => omega
          case rel => exact ⟨k + 1, by omega, by omega, by go_num, ⟨by rw [HS.out, HNXE.out]; exact HI8⟩, ⟨kept_trans HK.out (kept_trans (kept_below HB7.out) (kept_trans (kept_below hb4) HK8))⟩⟩
      · have hltz : ¬ (k : Int) < (M : Int) := by omega
        obtain rfl : k = M := by omega
        go_wp2
        go_end0
        refine ⟨rfl, ?_, HK.out⟩
        rw [chooseS_succ, HM.out]
        exact HV1.out
def shareC (t : List Int) (n : Int) : List Int × Int × Int := if timesC (inB n 1 6) t 8 = 0 then ((chooseS t n.toNat t.length [] [] ([], -1)).1, (chooseS t n.toNat t.length [] [] ([], -1)).2, 0) else ([], 0, timesC (inB n 1 6) t 8)
def impl_ShareAny.f (l0 : List Int) (a1 : Int) : Option (List Int × Int × Int) := some (shareC l0 a1)
set_option maxHeartbeats 2000000 in
theorem impl_ShareAny.calls (A0 : Option Addr) (c0 : Nat) (l0 : List Int) (a1 : Int) (r1 : List Int) (r2 : Int) (r3 : Int) (w : World) (hr0 : Kd.C (Kd.int .i64) w A0 l0.length l0) (hc0 : l0.length ≤ c0) (h : impl_ShareAny.f l0 a1 = some (r1, r2, r3)) :
    Calls Try.prog 37 #[.slice A0 l0.length c0, .int .i64 a1] w fun e w' => ∃ v0_ : Value, e = .returned (.tuple #[v0_, .int .i64 r2, .int .i64 r3]) ∧ Kd.R (Kd.int .i64) 2 w' w.heap.size (fun _ => True) v0_ r1 ∧ Below w.heap.size w w' := by
  have HR0 := Aside0.mk hr0
  have HC0 := Aside0.mk hc0
  clear hr0 hc0
  have h := Option.some.inj h
  have HD := Aside0.mk (impl_times_eq l0 a1 6 8)
  have HB := Aside0.mk (below_alloc (below_alloc (Below.refl w.heap.size w) (.cells #[.slice A0 l0.length c0] 48 (0, 0))) (.cells #[.int .i64 a1] 2 (0, 0)))
  have B0 := Aside0.mk (blk_alloc (blk_new w (.cells #[.slice A0 l0.length c0] 48 (0, 0))) (.cells #[.int .i64 a1] 2 (0, 0)))
  have B1 := Aside0.mk (blk_newAt (W := w.alloc (.cells #[.slice A0 l0.length c0] 48 (0, 0))) (n := w.heap.size + 1) (by simp) (.cells #[.int .i64 a1] 2 (0, 0)))
  unfold shareC at h
  by_cases hz : timesC (inB a1 1 6) l0 8 = 0
  · rw [if_pos hz] at h
    obtain ⟨hin, hb7, hl7⟩ := timesC_zero hz
    obtain ⟨hin1, hin2⟩ := inB_iff.1 hin
    obtain ⟨cut, rfl⟩ := Int.eq_ofNat_of_zero_le (show 0 ≤ a1 by omega)
    have HCut := Aside0.mk (show cut ≤ 6 by omega)
    rw [Int.toNat_natCast] at h
    rw [hz] at HD
    have HL8 := Aside0.mk (show l0.length ≤ 8 by omega)
    clear hz hb7 hl7 hin hin1 hin2
    injection h with h1 h
    injection h with h2 h3
    subst h3
    have H1 := Aside0.mk h1
    have H2 := Aside0.mk h2
    clear h1 h2
    go_enter Try.func37, Try.ntmps37
    go_wp2_with fail
    refine (impl_timesCode.calls A0 c0 l0 (cut : Int) 6 8 0 _ (Kd.C_below HR0.out HB.out) HC0.out HD.out).mono ?_
    rintro e w1 ⟨rfl, hb⟩
    replace B0 := Aside0.mk (blk_below B0.out hb)
    replace B1 := Aside0.mk (blk_below B1.out hb)
    replace HB := Aside0.mk (below_step HB.out hb)
    clear hb
    go_wp2_with (first | ((with_reducible refine gate_dst (N := 17) rfl ?_); refine Kd.R_lit (Kd.int .i64) _ 2 ?hg (N := 17) ?hd (xs := ([] : List Int)) (inner := []) (ok := fun _ => True) (okp := fun _ => True) ?hr ?hp (fun _ hk => hk) trivial (Below.refl _ _) (Nat.le_refl _) (by simp) ?_; (case hd => rfl); (case hg => rfl); (case hr => first | (go_simp; done) | (go_simp; rfl)); (case hp => exact (Reps.none _ _)); intro v17 w3 ho4 hb hg_ hnew_; clear hg_ hnew_; obtain ⟨Av, cv, rfl⟩ := Kd.R_slice ho4; have HO := Aside0.mk (Kd.R_lower ho4 (below_size HB.out)); have n1_ := Aside0.mk (below_step HB.out hb); have M0 := Aside0.mk (blk_below B0.out hb); have M1 := Aside0.mk (blk_below B1.out hb); clear HB B0 B1; have HB := n1_; clear n1_; clear hb ho4))
    have g0 := blk_lt' M0.out
    have g1 := blk_lt' M1.out
    have gB := HB.out.size
    have DD := Aside0.mk (show DistB w.heap.size w.heap.size (w.heap.size + 1) (w3.heap.size + 1) w3.heap.size (w3.heap.size + 1 + 1) from ⟨by omega, by omega, by omega, by omega, by omega, by omega, by omega, by omega, by omega⟩)
    have RB := Aside0.mk (show Kd.R (Kd.int .i64) 2 w3 w.heap.size (okF (w3.heap.size + 1) w3.heap.size) (.slice Av 0 cv) [] from Kd.R_mono (Kd.R_bound HO.out) (fun k hk => ⟨by have := hk.2.2.1; omega, by have := hk.2.2.1; omega⟩))
    clear g0 g1 gB h
    refine (share_calls w w.heap.size (w.heap.size + 1) (w3.heap.size + 1) w3.heap.size (w3.heap.size + 1 + 1) A0 c0 l0 cut HR0 HC0 HL8 HCut DD l0.length [] none 0 [] none 0 ([], -1) _ ⟨by simp⟩ ⟨by simp⟩ ⟨by simp⟩ ⟨by simp⟩
      ⟨⟨blk_alloc (blk_alloc (blk_alloc M0.out _) _) _, blk_alloc (blk_alloc (blk_alloc M1.out _) _) _, blk_alloc (blk_newAt (by simp) _) _, ⟨_, blk_alloc (blk_alloc (blk_newAt rfl _) _) _, Kd.R_alloc (Kd.R_alloc (Kd.R_alloc RB.out _) _) _⟩, blk_newAt (by simp) _, below_alloc (below_alloc (below_alloc HB.out _) _) _⟩⟩ ⟨Kd.R_nil _ _ _ _ _⟩ ⟨Kd.R_nil _ _ _ _ _⟩).mono ?_
    rintro e w5 ⟨rfl, HI5, HK5⟩
    generalize chooseS l0 cut l0.length [] [] ([], -1) = σ at HI5 H1 H2
    obtain ⟨s1, s2⟩ := σ
    have e1 := H1.out
    have e2 := H2.out
    dsimp only at e1 e2
    subst e1 e2
    have hcl := cell_of HI5.hl
    obtain ⟨vb, hb_, hRb⟩ := HI5.hb
    have hcb := cell_of hb_
    obtain ⟨Ab, cb, rfl⟩ := Kd.R_slice hRb
    have HRb := Aside0.mk (Kd.R_mono hRb (fun k _ => trivial))
    have HB5 := Aside0.mk HI5.bel
    clear HI5 HK5 hb_ hRb H1 H2
    go_wp2_with fail
    go_quiet (fail)
    go_wp2_with fail
    go_ret3
    exact ⟨_, rfl, (by (with_reducible repeat (first | apply Kd.R_alloc | apply Kd.R_drewN | apply Kd.R_drew)); exact HRb.out), (by repeat (first | (with_reducible first | exact HB5.out | apply below_alloc | apply pw_below_drewN | apply below_drew1) | exact HB5.out))⟩
  · rw [if_neg hz] at h
    have hne2 : (timesC (inB a1 1 6) l0 8 != 0) = true := by simpa using hz
    generalize timesC (inB a1 1 6) l0 8 = c at *
    have hne : (c == 0) = false := by simpa using hz
    injection h with h1 h
    injection h with h2 h3
    subst h1 h2 h3
    go_enter Try.func37, Try.ntmps37
    go_wp2_with fail
    refine (impl_timesCode.calls A0 c0 l0 a1 6 8 c _ (Kd.C_below HR0.out HB.out) HC0.out HD.out).mono ?_
    rintro e w1 ⟨rfl, hb⟩
    have HB' := Aside0.mk (below_step HB.out hb)
    clear hb
    go_wp2_with fail
    go_ret3
    exact ⟨_, rfl, Kd.R_nil _ _ _ _ _, HB'.out⟩
end Go.Proofs.Ytgfjmamjfkcmbaa.Ext
