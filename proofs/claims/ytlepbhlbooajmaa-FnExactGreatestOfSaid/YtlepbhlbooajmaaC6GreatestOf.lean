/- Contracts and plain laws of functions of the given program; no conditions beside those in the theorems. -/
import Derived.Test.YtlepbhlbooajmaaC5GreatestOf
import Derived.Test.YtlepbhlbooajmaaC1GreatestOf
import Derived.Test.YtlepbhlbooajmaaC2GreatestOf
import Derived.Test.YtlepbhlbooajmaaC3GreatestOf
import Derived.Test.YtlepbhlbooajmaaC4GreatestOf
import Derived.Test.YtlepbhlbooajmaaC0GreatestOf
import Derived.ProofKit
import Derived.OpenShut
import Derived.Below
import Derived.SizedLaws
import Derived.ShutString
import Derived.Deep.Slices
namespace Go.Proofs.Ytlepbhlbooajmaa.Pure
open Go.RowKit Go.Proofs.Ytlepbhlbooajmaa.Ext Go.Proofs.Ytlepbhlbooajmaa.Q Go.Proofs.YtlepbhlbooajmaaW.PrintWords Go.Proofs.YtlepbhlbooajmaaW.PrintLast Go.Proofs.YtlepbhlbooajmaaW.PrintMore
set_option linter.unusedVariables false
set_option linter.unusedSimpArgs false
def bstG (s : Sys) (k i last : Nat) : Gr := bestG (rowG s (tabG s k) k) (natL s i last)
def topG (s : Sys) (k last : Nat) : Gr := if k = 0 then (0, ⟨#[]⟩) else bstG s k s.m last
def remG (s : Sys) (k p : Nat) : Nat := ((k : Int) - tsz s p).toNat
def celG (s : Sys) (k p : Nat) : Gr := if tsz s p ≤ (k : Int) ∧ 0 ≤ (topG s (remG s k p) p).1 then (s.V p + (topG s (remG s k p) p).1, s.T p ++ (topG s (remG s k p) p).2) else noGr
theorem app_none (t : ByteArray) : t ++ (⟨#[]⟩ : ByteArray) = t := by
 apply ByteArray.ext
 rw [ByteArray.data_append]
 simp
theorem cel_eq (s : Sys) (ho : s.ok) {k p : Nat} (hp : p < s.m) : cellG s (tabG s k) k p = celG s k p := by
 have t0 : 1 ≤ tsz s p := ho.l0 p hp
 unfold cellG celG
 by_cases h0 : (k : Int) - tsz s p = 0
 ·have hr : remG s k p = 0 := by unfold remG; omega
  rw [if_pos h0, hr, show topG s 0 p = (0, ⟨#[]⟩) from rfl, if_pos ⟨by omega, Int.le_refl _⟩, Int.add_zero, app_none]
 ·rw [if_neg h0]
  by_cases h1 : (k : Int) - tsz s p > 0
  ·have hr : remG s k p ≠ 0 := by unfold remG; omega
   have hrk : remG s k p < k := by unfold remG; omega
   have e : bestG ((tabG s k).getD ((k : Int) - tsz s p).toNat []) (nxL s p) = topG s (remG s k p) p := by
    show bestG ((tabG s k).getD (remG s k p) []) (nxL s p) = _
    rw [tabG_get s hrk]
    unfold topG
    rw [if_neg hr]
    rfl
   rw [if_pos h1, e]
   by_cases h2 : 0 ≤ (topG s (remG s k p) p).1
   ·rw [if_pos h2, if_pos ⟨by omega, h2⟩]
   ·rw [if_neg h2, if_neg (fun h => h2 h.2)]
  ·rw [if_neg h1, if_neg (fun h => by omega)]
theorem row_get (s : Sys) (ho : s.ok) {k p : Nat} (hp : p < s.m) : (rowG s (tabG s k) k).getD p noGr = celG s k p := by
 rw [← cel_eq s ho hp]
 unfold rowG
 rw [List.getD_eq_getElem?_getD, List.getElem?_map, List.getElem?_range hp]
 rfl
theorem bst_zero (s : Sys) (k last : Nat) : bstG s k 0 last = noGr := rfl
theorem bst_succ (s : Sys) (ho : s.ok) {k i last : Nat} (hi : i < s.m) : bstG s k (i + 1) last = if s.nx last i = true then (if betterG (celG s k i) (bstG s k i last) then celG s k i else bstG s k i last) else bstG s k i last := by
 unfold bstG
 rw [natL_succ]
 by_cases h : s.nx last i = true
 ·rw [if_pos h, if_pos h]
  unfold bestG
  rw [List.foldl_append]
  simp only [List.foldl_cons, List.foldl_nil, Int.toNat_natCast]
  rw [row_get s ho hi]
 ·rw [if_neg h, if_neg h]
theorem bst_ok (s : Sys) (ho : s.ok) (k i last : Nat) : okGr k (bstG s k i last) := bestG_ok _ k (tabG_ok s ho k) _
theorem top_ok (s : Sys) (ho : s.ok) (k last : Nat) : okGr k (topG s k last) := by
 unfold topG
 split
 ·exact ⟨by decide, by show (0 : Int) ≤ _; omega, Nat.zero_le _⟩
 ·exact bst_ok s ho k s.m last
theorem better_fst (own out : Gr) : (if betterG own out then own else out).1 = if out.1 < own.1 then own.1 else out.1 := by
 unfold betterG
 by_cases h : out.1 < own.1
 ·rw [decide_eq_true h, if_pos h]; rfl
 ·rw [decide_eq_false h, if_neg h, Bool.false_or]
  by_cases e : own.1 = out.1
  ·split
   ·exact e
   ·rfl
  ·rw [show (own.1 == out.1) = false from beq_eq_false_iff_ne.2 e]; rfl
theorem better_no (out : Gr) (h : -1 ≤ out.1) : betterG noGr out = false := by
 unfold betterG
 rw [decide_eq_false (show ¬ out.1 < noGr.1 from by show ¬ out.1 < -1; omega)]
 show ((_ : Bool) && (decide ((0 : Int) ≤ -1) && _)) = false
 simp
theorem cel_size (s : Sys) (ho : s.ok) {k p : Nat} (hp : p < s.m) (h : 0 ≤ (celG s k p).1) : 1 ≤ (celG s k p).2.size := by
 have t0 : 1 ≤ tsz s p := ho.l0 p hp
 unfold tsz at t0
 unfold celG at h ⊢
 split
 ·show 1 ≤ (s.T p ++ _).size
  rw [ByteArray.size_append]; omega
 ·rename_i hn
  rw [if_neg hn] at h
  exact absurd h (by decide)
theorem bst_size (s : Sys) (ho : s.ok) (k last : Nat) : ∀ i, i ≤ s.m → 0 ≤ (bstG s k i last).1 → 1 ≤ (bstG s k i last).2.size := by
 intro i
 induction i with
 | zero => intro _ h; rw [bst_zero] at h; exact absurd h (by decide)
 | succ i ih =>
  intro hi h
  rw [bst_succ s ho (by omega)] at h ⊢
  split at h
  ·rename_i hx
   rw [if_pos hx]
   split at h
   ·rename_i hb
    rw [if_pos hb]
    exact cel_size s ho (by omega) h
   ·rename_i hb
    rw [if_neg hb]
    exact ih (by omega) h
  ·rename_i hx
   rw [if_neg hx]
   exact ih (by omega) h
theorem bst_mono (s : Sys) (ho : s.ok) (k last : Nat) {i : Nat} (hi : i < s.m) : (bstG s k i last).1 ≤ (bstG s k (i + 1) last).1 := by
 rw [bst_succ s ho hi]
 split
 ·rw [better_fst]; split <;> omega
 ·exact Int.le_refl _
theorem bst_le (s : Sys) (ho : s.ok) (k last : Nat) : ∀ d i, i + d = s.m → (bstG s k i last).1 ≤ (bstG s k s.m last).1 := by
 intro d
 induction d with
 | zero => intro i h; rw [show i = s.m from by omega]; exact Int.le_refl _
 | succ d ih =>
  intro i h
  exact Int.le_trans (bst_mono s ho k last (by omega)) (ih (i + 1) (by omega))
theorem cel_le (s : Sys) (ho : s.ok) {k last i : Nat} (hi : i < s.m) (hx : s.nx last i = true) : (celG s k i).1 ≤ (bstG s k s.m last).1 := by
 refine Int.le_trans ?_ (bst_le s ho k last (s.m - (i + 1)) (i + 1) (by omega))
 rw [bst_succ s ho hi, if_pos hx, better_fst]
 split <;> omega
def rowGT (s : Sys) (k : Nat) : List Int := (List.range (s.m + 1)).map fun last => (topG s k last).1
def tabGT (s : Sys) (n : Nat) : List (List Int) := (List.range n).map (rowGT s)
theorem tabGT_len (s : Sys) (n : Nat) : (tabGT s n).length = n := by unfold tabGT; simp
theorem tabGT_succ (s : Sys) (n : Nat) : tabGT s (n + 1) = tabGT s n ++ [rowGT s n] := by unfold tabGT; rw [List.range_succ, List.map_append]; rfl
theorem tabGT_get (s : Sys) {j n : Nat} (h : j < n) : (tabGT s n).getD j [] = rowGT s j := by
 unfold tabGT
 rw [List.getD_eq_getElem?_getD, List.getElem?_map, List.getElem?_range h]
 rfl
theorem rowGT_len (s : Sys) (k : Nat) : (rowGT s k).length = s.m + 1 := by unfold rowGT; simp
theorem rowGT_get (s : Sys) {k last : Nat} (h : last ≤ s.m) : rd (rowGT s k) (last : Int) = (topG s k last).1 := by
 unfold rd rowGT
 rw [Int.toNat_natCast, map_range_getD _ _ (by omega)]
def rowTP (s : Sys) (k i : Nat) : List Int := ((List.range i).map fun last => (topG s k last).1) ++ List.replicate (s.m + 1 - i) 0
theorem rowTP_len (s : Sys) (k i : Nat) (h : i ≤ s.m + 1) : (rowTP s k i).length = s.m + 1 := by unfold rowTP; simp; omega
theorem rowTP_set (s : Sys) (k i : Nat) (h : i ≤ s.m) : (rowTP s k i).set i (topG s k i).1 = rowTP s k (i + 1) := by
 unfold rowTP
 rw [List.set_append_right _ _ (by simp), show s.m + 1 - i = (s.m + 1 - (i + 1)) + 1 from by omega, List.replicate_succ, List.length_map, List.length_range, Nat.sub_self, List.set_cons_zero, List.range_succ, List.map_append, List.append_assoc]
 rfl
theorem rd_set_self {l : List Int} {i : Nat} (h : i < l.length) (v : Int) : rd (l.set i v) (i : Int) = v := by
 unfold rd
 rw [Int.toNat_natCast, List.getD_eq_getElem?_getD, List.getElem?_set_self h]
 rfl
theorem rem_le (s : Sys) {k p : Nat} (h : tsz s p ≤ (k : Int)) (h1 : 1 ≤ tsz s p) : (k : Int) - tsz s p = (remG s k p : Int) ∧ remG s k p < k := by unfold remG; omega
theorem max_f (a b : Int) : spec_l00Max.f a b = some (if a < b then b else a) := by
 unfold spec_l00Max.f
 by_cases h : a > b
 ·rw [if_pos h, if_neg (by omega)]
 ·rw [if_neg h]
  by_cases h2 : a < b
  ·rw [if_pos h2]
  ·rw [if_neg h2, show a = b from by omega]
theorem great_l2 (s : Sys) (ho : s.ok) (P : List Pc) (X : List (List Bool)) (hR : Ref s P X) (n : Int) (j i : Nat) (hj : 0 < j) (hjb : j ≤ 100000) (hi : i ≤ s.m) (row : List Int) (hrl : row.length = s.m + 1) (R : List (List Int)) (K : Nat)
  (h0 : ∀ k', K ≤ k' → spec_l03Great.l1 k' P X n (tabGT s j) j (row.set i (topG s j i).1) ((i + 1 : Nat) : Int) = some R) :
  ∀ (d p k : Nat), p + d = s.m → K + d < k → spec_l03Great.l2 k P X n (tabGT s j) j (row.set i (bstG s j p i).1) i p = some R := by
 have hm1 := ho.m1
 have hlen := hR.len
 have hxl := hR.nxl i hi
 have hnl := hR.nlen
 intro d
 induction d with
 | zero =>
  intro p k hp hK
  obtain ⟨k, rfl⟩ : ∃ k', k = k' + 1 := ⟨k - 1, by omega⟩
  obtain rfl : p = s.m := by omega
  unfold spec_l03Great.l2
  rw [if_neg (by omega), wsucc i (by omega)]
  have := h0 k (by omega)
  unfold topG at this
  rw [if_neg (by omega)] at this
  exact this
 | succ d ih =>
  intro p k hp hK
  obtain ⟨k, rfl⟩ : ∃ k', k = k' + 1 := ⟨k - 1, by omega⟩
  have hlt : p < s.m := by omega
  have hv0 := ho.v0 p hlt
  have hv1 := ho.v1 p hlt
  have t0 : 1 ≤ tsz s p := ho.l0 p hlt
  have t1 : tsz s p ≤ 2 := ho.l1 p hlt
  have hT : ((rd_T108 P (p : Int)).f0.size : Int) = tsz s p := by rw [hR.txt p hlt]; rfl
  have hxl' : (X.getD (i : Int).toNat []).length = s.m := hxl
  have hnx : rdOf false (X.getD (i : Int).toNat []) (p : Int) = s.nx i p := hR.nxt i p hi hlt
  have hset : (row.set i (bstG s j p i).1).length = s.m + 1 := by rw [List.length_set]; exact hrl
  have hb := bst_ok s ho j p i
  have hstep := ih (p + 1) k (by omega) (by omega)
  rw [bst_succ s ho hlt] at hstep
  have htl := tabGT_len s j
  unfold spec_l03Great.l2
  delta rd_L11 rd_L12 rd_L15 rd_L16 rd_L18 rd_L5 rd_L6
  rw [if_pos (by omega), if_pos (by omega), if_pos (by omega), if_pos (by omega), if_pos (by omega), hnx, hT, wsucc p (by omega), show wrap64 ((j : Int) - tsz s p) = (j : Int) - tsz s p from by unfold wrap64; omega]
  by_cases hx : s.nx i p = true
  ·rw [if_pos hx] at hstep ⊢
   by_cases hr : tsz s p ≤ (j : Int)
   ·obtain ⟨hr1, hr2⟩ := rem_le s hr t0
    have e1 : (tabGT s j).getD (remG s j p) [] = rowGT s (remG s j p) := tabGT_get s hr2
    have htop := top_ok s ho (remG s j p) p
    obtain ⟨u0, u1, u2⟩ := htop
    rw [if_pos (by omega), if_pos (by omega), if_pos (by omega), hr1, Int.toNat_natCast, e1, rowGT_len, if_pos (by omega), rowGT_get s (by omega)]
    by_cases hu : (topG s (remG s j p) p).1 ≥ 0
    ·have ec : celG s j p = (s.V p + (topG s (remG s j p) p).1, s.T p ++ (topG s (remG s j p) p).2) := by unfold celG; rw [if_pos ⟨hr, hu⟩]
     rw [if_pos hu, if_pos (by omega), Int.toNat_natCast, rd_set_self (by omega), hR.val p hlt, show wrap64 (s.V p + (topG s (remG s j p) p).1) = s.V p + (topG s (remG s j p) p).1 from by unfold wrap64; omega, max_f, Option.bind_some, List.set_set]
     rw [better_fst, ec] at hstep
     exact hstep
    ·have ec : celG s j p = noGr := by unfold celG; rw [if_neg (fun h => hu h.2)]
     rw [ec, better_no _ hb.1] at hstep
     rw [if_neg hu]
     exact hstep
   ·have ec : celG s j p = noGr := by unfold celG; rw [if_neg (fun h => hr h.1)]
    rw [ec, better_no _ hb.1] at hstep
    rw [if_neg (by omega)]
    exact hstep
  ·rw [if_neg hx] at hstep ⊢
   exact hstep
theorem great_l1 (s : Sys) (ho : s.ok) (P : List Pc) (X : List (List Bool)) (hR : Ref s P X) (n : Int) (j : Nat) (hj : 0 < j) (hjb : j ≤ 100000) (R : List (List Int)) (K : Nat)
  (h0 : ∀ k', K ≤ k' → spec_l03Great.l0 k' P X n (tabGT s (j + 1)) ((j + 1 : Nat) : Int) = some R) :
  ∀ (d i k : Nat), i + d = s.m + 1 → K + 2 + d * (s.m + 4) < k → spec_l03Great.l1 k P X n (tabGT s j) j (rowTP s j i) i = some R := by
 have hm1 := ho.m1
 have hlen := hR.len
 intro d
 induction d with
 | zero =>
  intro i k hi hK
  obtain ⟨k, rfl⟩ : ∃ k', k = k' + 2 := ⟨k - 2, by omega⟩
  obtain rfl : i = s.m + 1 := by omega
  unfold spec_l03Great.l1
  rw [if_neg (by omega)]
  unfold spec_l03Great.j2
  rw [if_neg (by simp), if_pos (by rw [tabGT_len]; omega), wsucc j (by omega), show rowTP s j (s.m + 1) = rowGT s j from by unfold rowTP rowGT; simp, ← tabGT_succ]
  exact h0 k (by omega)
 | succ d ih =>
  intro i k hi hK
  have hs : K + 2 + d * (s.m + 4) + (s.m + 4) < k := by rw [Nat.succ_mul] at hK; omega
  obtain ⟨k, rfl⟩ : ∃ k', k = k' + 2 := ⟨k - 2, by omega⟩
  have hl := rowTP_len s j i (by omega)
  unfold spec_l03Great.l1
  rw [if_pos (by omega)]
  unfold spec_l03Great.j2
  rw [if_pos (decide_eq_true (by omega)), if_pos (by omega), if_pos (by omega), Int.toNat_natCast]
  refine great_l2 s ho P X hR n j i hj hjb (by omega) (rowTP s j i) hl R (K + 2 + d * (s.m + 4) + 1) (fun k' hk' => ?_) s.m 0 k (by omega) (by omega)
  rw [rowTP_set s j i (by omega)]
  exact ih (i + 1) k' (by omega) (by omega)
theorem great_l0 (s : Sys) (ho : s.ok) (P : List Pc) (X : List (List Bool)) (hR : Ref s P X) (n : Nat) (hn : n ≤ 10000) :
  ∀ (d j k : Nat), j + d = n + 1 → d * ((s.m + 2) * (s.m + 4)) < k → spec_l03Great.l0 k P X n (tabGT s j) j = some (tabGT s (n + 1)) := by
 have hm1 := ho.m1
 have hlen := hR.len
 intro d
 induction d with
 | zero =>
  intro j k hj hK
  obtain ⟨k, rfl⟩ : ∃ k', k = k' + 1 := ⟨k - 1, by omega⟩
  obtain rfl : j = n + 1 := by omega
  unfold spec_l03Great.l0
  rw [if_neg (by omega)]
 | succ d ih =>
  intro j k hj hK
  have hs : d * ((s.m + 2) * (s.m + 4)) + (s.m + 2) * (s.m + 4) < k := by rw [Nat.succ_mul] at hK; omega
  have hs2 : (s.m + 2) * (s.m + 4) = (s.m + 1) * (s.m + 4) + (s.m + 4) := Nat.succ_mul _ _
  obtain ⟨k, rfl⟩ : ∃ k', k = k' + 1 := ⟨k - 1, by omega⟩
  unfold spec_l03Great.l0
  rw [if_pos (by omega), hlen, wsucc s.m (by omega), if_pos (by omega), if_pos (by omega), Int.toNat_natCast]
  by_cases h0 : j = 0
  ·subst h0
   obtain ⟨k, rfl⟩ : ∃ k', k = k' + 2 := ⟨k - 2, by omega⟩
   unfold spec_l03Great.l1
   rw [if_pos (by omega)]
   unfold spec_l03Great.j2
   rw [if_neg (by simp), if_pos (by rw [tabGT_len]; omega), wsucc 0 (by omega)]
   have e : tabGT s 0 ++ [List.replicate (s.m + 1) 0] = tabGT s (0 + 1) := by
    rw [tabGT_succ]
    congr 2
    unfold rowGT
    apply List.ext_getElem
    ·simp
    ·intro i h1 h2; simp [topG]
   rw [e]
   exact ih (0 + 1) k (by omega) (by omega)
  ·have e : List.replicate (s.m + 1) 0 = rowTP s j 0 := by unfold rowTP; simp
   rw [e]
   refine great_l1 s ho P X hR n j (by omega) (by omega) _ (d * ((s.m + 2) * (s.m + 4)) + 1) (fun k' hk' => ih (j + 1) k' (by omega) (by omega)) (s.m + 1) 0 k (by omega) (by omega)
theorem great_eq (s : Sys) (ho : s.ok) (P : List Pc) (X : List (List Bool)) (hR : Ref s P X) (n : Nat) (hn : n ≤ 10000) {k : Nat} (hk : (n + 1) * 360 < k) : spec_l03Great.f k P X (n : Int) = some (tabGT s (n + 1)) := by
 have hm1 := ho.m1
 unfold spec_l03Great.f
 have h1 : (s.m + 2) * (s.m + 4) ≤ 360 := Nat.mul_le_mul (by omega : s.m + 2 ≤ 18) (by omega : s.m + 4 ≤ 20)
 exact great_l0 s ho P X hR n hn (n + 1) 0 k (by omega) (Nat.lt_of_le_of_lt (Nat.mul_le_mul_left _ h1) hk)
end Go.Proofs.Ytlepbhlbooajmaa.Pure
namespace Go.Proofs.Ytlepbhlbooajmaa.Ext
end Go.Proofs.Ytlepbhlbooajmaa.Ext
namespace Go.Proofs.Ytlepbhlbooajmaa.Q
open Go.Proofs.Ytlepbhlbooajmaa.Ext
open Go.RowKit Go.Proofs.YtlepbhlbooajmaaW.PrintWords Go.Proofs.YtlepbhlbooajmaaW.PrintLast Go.Proofs.YtlepbhlbooajmaaW.PrintMore
attribute [local go_sem] max2_int min2_int max_two min_two max_three min_three max_four min_four
set_option linter.unusedVariables false
set_option linter.unusedSimpArgs false
def spec_GreatestOf.f (k : Nat) (l0_0 : List (S102)) (l0_1 : List (S104)) (a1 : Int) : Option (Int × ByteArray × Int) := (spec_l03Ok.f l0_0 l0_1).bind fun t471 => (if t471 = true then ((spec_l00In.f a1 0 16).bind fun t472 => (if t472 = true then ((spec_l03Pieces.f k l0_0 l0_1).bind fun t473 => ((spec_l03Next.f k l0_0 l0_1 t473).bind fun t476 => ((spec_l03Great.f k t473 t476 a1).bind fun t479 => (if 0 ≤ a1 then (if a1 < (t479.length : Int) then (if 0 ≤ (t473.length : Int) then (if (t473.length : Int) < ((rd_L12 t479 a1).length : Int) then ((spec_l03Greatest.f k t473 t476 t479 a1 (t473.length : Int)).bind fun t484 => (some (rd (rd_L12 t479 a1) (t473.length : Int), t484, 0))) else (none)) else (none)) else (none)) else (none))))) else (some (0, (⟨#[]⟩ : ByteArray), 2)))) else (some (0, (⟨#[]⟩ : ByteArray), 1)))
def spec_GreatestOf.T8 : Bool × List (List Nat × List Nat) := (true, [([], []), ([], []), ([0, 1], [0, 1]), ([2], [2]), ([], []), ([4], [4]), ([3, 5], [3, 5]), ([6], [6]), ([], []), ([], []), ([], []), ([], []), ([], []), ([12], [12]), ([8, 9, 10, 11, 13], [8, 9, 10, 11, 13]), ([7, 14, 0, 1, 2, 3, 4, 5, 6, 7], [7]), ([14, 15, 0, 1, 2, 3, 4, 5, 6, 7, 8, 9, 10, 11, 12, 13, 14, 15], [14]), ([16, 0, 1, 2, 3, 4, 5, 6, 7, 8, 9, 10, 11, 12, 13, 14, 15, 16], [])])
def spec_GreatestOf.B8 : List Nat := [0, 0, 3, 7, 0, 16, 63, 127, 0, 0, 0, 0, 0, 4096, 16128, 32767, 65535, 131071]
theorem spec_GreatestOf.tab8 : rtab .any (opsOf Try.f8 8) = spec_GreatestOf.T8 := by kernel_rfl
theorem spec_GreatestOf.bits8 : waitsOk spec_GreatestOf.T8.2 spec_GreatestOf.B8 = true := by kernel_rfl
set_option maxHeartbeats 8000000 in
set_option maxRecDepth 100000 in
theorem spec_GreatestOf.calls (k : Nat) (A0_0 : Option Addr) (c0_0 : Nat) (l0_0 : List (S102)) (A0_1 : Option Addr) (c0_1 : Nat) (l0_1 : List (S104)) (a1 : Int) (r1 : Int) (r2 : ByteArray) (r3 : Int) (w : World) (hr0_0 : Kd.C k102 w A0_0 l0_0.length l0_0) (hc0_0 : l0_0.length ≤ c0_0) (hr0_1 : Kd.C k104 w A0_1 l0_1.length l0_1) (hc0_1 : l0_1.length ≤ c0_1) (h : spec_GreatestOf.f k l0_0 l0_1 a1 = some (r1, r2, r3)) :
  Calls Try.prog 8 #[.agg #[.slice A0_0 l0_0.length c0_0, .slice A0_1 l0_1.length c0_1], .int .i64 a1] w fun e w' => e = .returned (.tuple #[.int .i64 r1, .string r2, .int .i64 r3]) ∧ Below w.heap.size w w' := by
 have hu31 := Try.underlying31
 have HR0_0 := Aside0.mk hr0_0
 have HC0_0 := Aside0.mk hc0_0
 clear hr0_0 hc0_0
 have HR0_1 := Aside0.mk hr0_1
 have HC0_1 := Aside0.mk hc0_1
 clear hr0_1 hc0_1
 have HB := Aside0.mk (Below.refl w.heap.size w)
 have H : ((spec_l03Ok.f l0_0 l0_1).bind fun t471 => (if t471 = true then ((spec_l00In.f a1 0 16).bind fun t472 => (if t472 = true then ((spec_l03Pieces.f k l0_0 l0_1).bind fun t473 => ((spec_l03Next.f k l0_0 l0_1 t473).bind fun t476 => ((spec_l03Great.f k t473 t476 a1).bind fun t479 => (if 0 ≤ a1 then (if a1 < (t479.length : Int) then (if 0 ≤ (t473.length : Int) then (if (t473.length : Int) < ((rd_L12 t479 a1).length : Int) then ((spec_l03Greatest.f k t473 t476 t479 a1 (t473.length : Int)).bind fun t484 => (some (rd (rd_L12 t479 a1) (t473.length : Int), t484, 0))) else (none)) else (none)) else (none)) else (none))))) else (some (0, (⟨#[]⟩ : ByteArray), 2)))) else (some (0, (⟨#[]⟩ : ByteArray), 1)))) = some (r1, r2, r3) := h
 clear h
 replace H := Option.bind_eq_some_iff.mp H
 obtain ⟨t471, A30, H⟩ := H
 (try dsimp only at H)
 have A3 := Aside0.mk A30
 clear A30
 by_cases c4 : t471 = true
 ·subst c4
  have H1 : ((spec_l00In.f a1 0 16).bind fun t472 => (if t472 = true then ((spec_l03Pieces.f k l0_0 l0_1).bind fun t473 => ((spec_l03Next.f k l0_0 l0_1 t473).bind fun t476 => ((spec_l03Great.f k t473 t476 a1).bind fun t479 => (if 0 ≤ a1 then (if a1 < (t479.length : Int) then (if 0 ≤ (t473.length : Int) then (if (t473.length : Int) < ((rd_L12 t479 a1).length : Int) then ((spec_l03Greatest.f k t473 t476 t479 a1 (t473.length : Int)).bind fun t484 => (some (rd (rd_L12 t479 a1) (t473.length : Int), t484, 0))) else (none)) else (none)) else (none)) else (none))))) else (some (0, (⟨#[]⟩ : ByteArray), 2)))) = some (r1, r2, r3) := by rw [if_pos rfl] at H; exact H
  clear H
  have H := H1
  clear H1
  replace H := Option.bind_eq_some_iff.mp H
  obtain ⟨t472, A50, H⟩ := H
  (try dsimp only at H)
  have A5 := Aside0.mk A50
  clear A50
  by_cases c6 : t472 = true
  ·subst c6
   have H1 : ((spec_l03Pieces.f k l0_0 l0_1).bind fun t473 => ((spec_l03Next.f k l0_0 l0_1 t473).bind fun t476 => ((spec_l03Great.f k t473 t476 a1).bind fun t479 => (if 0 ≤ a1 then (if a1 < (t479.length : Int) then (if 0 ≤ (t473.length : Int) then (if (t473.length : Int) < ((rd_L12 t479 a1).length : Int) then ((spec_l03Greatest.f k t473 t476 t479 a1 (t473.length : Int)).bind fun t484 => (some (rd (rd_L12 t479 a1) (t473.length : Int), t484, 0))) else (none)) else (none)) else (none)) else (none))))) = some (r1, r2, r3) := by rw [if_pos rfl] at H; exact H
   clear H
   have H := H1
   clear H1
   replace H := Option.bind_eq_some_iff.mp H
   obtain ⟨t473, A70, H⟩ := H
   (try dsimp only at H)
   have A7 := Aside0.mk A70
   clear A70
   replace H := Option.bind_eq_some_iff.mp H
   obtain ⟨t476, A80, H⟩ := H
   (try dsimp only at H)
   have A8 := Aside0.mk A80
   clear A80
   replace H := Option.bind_eq_some_iff.mp H
   obtain ⟨t479, A90, H⟩ := H
   (try dsimp only at H)
   have A9 := Aside0.mk A90
   clear A90
   by_cases c10 : 0 ≤ a1
   ·rw [if_pos c10] at H
    have c10b0 : decide (0 ≤ a1) = true := decide_eq_true c10
    clear c10
    by_cases c11 : a1 < (t479.length : Int)
    ·rw [if_pos c11] at H
     have c11b0 : decide (a1 < (t479.length : Int)) = true := decide_eq_true c11
     clear c11
     by_cases c12 : 0 ≤ (t473.length : Int)
     ·rw [if_pos c12] at H
      have c12b0 : decide (0 ≤ (t473.length : Int)) = true := decide_eq_true c12
      have c12b1 : decide (0 ≤ t473.length) = true := decide_eq_true (by omega)
      clear c12
      by_cases c13 : (t473.length : Int) < ((rd_L12 t479 a1).length : Int)
      ·rw [if_pos c13] at H
       have c13b0 : decide ((t473.length : Int) < ((rd_L12 t479 a1).length : Int)) = true := decide_eq_true c13
       have c13b1 : decide (t473.length < (rd_L12 t479 a1).length) = true := decide_eq_true (Int.ofNat_lt.mp c13)
       clear c13
       replace H := Option.bind_eq_some_iff.mp H
       obtain ⟨t484, A140, H⟩ := H
       (try dsimp only at H)
       have A14 := Aside0.mk A140
       clear A140
       simp only [Option.some.injEq, Prod.mk.injEq] at H
       obtain ⟨rfl, rfl, rfl⟩ := H
       go_enter Try.func8, Try.ntmps8
       try go_wp2_with (first | ((with_reducible refine gate_dst (N := 2) rfl ?_); refine box_event ?hg (N := 2) ?hd (cs := #[.slice A0_0 l0_0.length c0_0, .slice A0_1 l0_1.length c0_1]) (t := 31) ?hr ?_; (case hd => rfl); (case hg => rfl); (case hr => first | (go_simp; done) | (go_simp; rfl)); intro gb470 hg w15 hbox hb; have n0_ := Aside0.mk (below_step (by repeat (first | (with_reducible first | exact HB.out | apply bwA | apply pwN | apply bw1) | exact HB.out)) hb); have n1_ := Aside0.mk (hbox); have n2_ := Aside0.mk ((by rw [hg]; exact (below_size (by repeat (first | (with_reducible first | exact HB.out | apply bwA | apply pwN | apply bw1) | exact HB.out))) : w.heap.size ≤ gb470)); have n3_ := Aside0.mk (n2_.out); clear HB; have HB := n0_; have BK470 := n1_; have GW470 := n2_; have GE470 := n3_; clear n0_ n1_ n2_ n3_; clear hb hbox hg; have HI470 := Aside0.mk (show IsS31 w w15 gb470 l0_0 l0_1 from ⟨A0_0, c0_0, A0_1, c0_1, BK470.out, GW470.out, HR0_0.out, HR0_1.out⟩)) | ((with_reducible refine gate_callee (f := 23) rfl ?_); refine goesL_ (some 10) rfl rfl Try.func23 (by kernel_rfl) rfl #[.pointer (some ⟨gb470, 0, none⟩)] rfl (by (try simp only [List.map_toArray, List.map_cons, List.map_nil]); first | done | rfl | (simp only [List.length_drop, List.length_take]; rfl)) ?_; (with_reducible refine (spec_l03Ok.calls gb470 l0_0 l0_1 true w _ ?side1 ?side2 A3.out).mono ?_); (case side1 => repeat (first | (with_reducible first | exact HI470.out | apply IsS31.alloc | apply IsS31.drewN | apply IsS31.drew) | exact HI470.out)); (case side2 => repeat (first | (with_reducible first | exact HB.out | apply bwA | apply pwN | apply bw1 | refine below_set ?_ (IsS31.ge HI470.out)) | exact HB.out)); rintro e w16 ⟨rfl, hi, hb, hk⟩; refine ⟨_, rfl, ?_⟩; have n0_ := Aside0.mk (hb); have n1_ := Aside0.mk (hi); clear HB; clear HI470; have HB := n0_; have HI470 := n1_; clear n0_ n1_; (try clear hb); (try clear hb2); (try clear hk); (try clear hi)) | ((with_reducible refine gate_callee (f := 24) rfl ?_); refine goesL_ (some 13) rfl rfl Try.func24 (by kernel_rfl) rfl #[.int .i64 a1, .int .i64 0, .int .i64 16] rfl (by (try simp only [List.map_toArray, List.map_cons, List.map_nil]); first | done | rfl | (simp only [List.length_drop, List.length_take]; rfl)) ?_; (with_reducible refine (spec_l00In.calls a1 0 16 true _ A5.out).mono ?_); rintro e w' ⟨rfl, ⟨nd, rfl⟩⟩; refine ⟨_, rfl, ?_⟩) | ((with_reducible refine gate_callee (f := 25) rfl ?_); refine goesL_ (some 15) rfl rfl Try.func25 (by kernel_rfl) rfl #[.pointer (some ⟨gb470, 0, none⟩)] rfl (by (try simp only [List.map_toArray, List.map_cons, List.map_nil]); first | done | rfl | (simp only [List.length_drop, List.length_take]; rfl)) ?_; (with_reducible refine (spec_l03Pieces.calls k gb470 l0_0 l0_1 t473 w _ ?side1 ?side2 A7.out).mono ?_); (case side1 => repeat (first | (with_reducible first | exact HI470.out | apply IsS31.alloc | apply IsS31.drewN | apply IsS31.drew) | exact HI470.out)); (case side2 => repeat (first | (with_reducible first | exact HB.out | apply bwA | apply pwN | apply bw1 | refine below_set ?_ (IsS31.ge HI470.out)) | exact HB.out)); rintro e w17 ⟨v474, rfl, ho0, hi, hb, hk⟩; refine ⟨_, rfl, ?_⟩; have n0_ := Aside0.mk (Kd.R_lower ho0 (below_size (by repeat (first | (with_reducible first | exact HB.out | apply bwA | apply pwN | apply bw1 | refine below_set ?_ (IsS31.ge HI470.out)) | exact HB.out)))); have n1_ := Aside0.mk (hb); have n2_ := Aside0.mk (hi); clear HB; clear HI470; have HO475 := n0_; have HB := n1_; have HI470 := n2_; clear n0_ n1_ n2_; (try clear hb); (try clear hb2); (try clear hk); (try clear hi); (try clear ho0); obtain ⟨Ao18, co18, eo18⟩ := Kd.R_slice HO475.out; subst eo18) | ((with_reducible refine gate_callee (f := 26) rfl ?_); refine goesL_ (some 17) rfl rfl Try.func26 (by kernel_rfl) rfl #[.pointer (some ⟨gb470, 0, none⟩), .slice Ao18 t473.length co18] rfl (by (try simp only [List.map_toArray, List.map_cons, List.map_nil]); first | done | rfl | (simp only [List.length_drop, List.length_take]; rfl)) ?_; (with_reducible refine (spec_l03Next.calls k gb470 l0_0 l0_1 _ _ t473 t476 w _ ?side1 ?side2 ?side3 ?side4 A8.out).mono ?_); (case side1 => repeat (first | (with_reducible first | exact HI470.out | apply IsS31.alloc | apply IsS31.drewN | apply IsS31.drew) | exact HI470.out)); (case side2 => repeat (first | (with_reducible first | exact HB.out | apply bwA | apply pwN | apply bw1 | refine below_set ?_ (IsS31.ge HI470.out)) | exact HB.out)); (case side3 => exact Kd.C_foot_own (IsS31.apart (show IsS31 w _ gb470 l0_0 l0_1 from by repeat (first | (with_reducible first | exact HI470.out | apply IsS31.alloc | apply IsS31.drewN | apply IsS31.drew) | exact HI470.out)) (by (with_reducible repeat (first | apply Kd.R_alloc | apply Kd.R_drewN | apply Kd.R_drew)); exact HO475.out) (by decide)) (fun _ h_ => h_.2)); (case side4 => exact (Kd.R_reads' HO475.out).2.1); rintro e w19 ⟨v477, rfl, ho0, hi, hb, hk⟩; refine ⟨_, rfl, ?_⟩; have n0_ := Aside0.mk (Kd.R_mono (Kd.R_keep (IsS31.apart (show IsS31 w _ gb470 l0_0 l0_1 from by repeat (first | (with_reducible first | exact HI470.out | apply IsS31.alloc | apply IsS31.drewN | apply IsS31.drew) | exact HI470.out)) (by (with_reducible repeat (first | apply Kd.R_alloc | apply Kd.R_drewN | apply Kd.R_drew)); exact HO475.out) (by decide)) hk (fun _ h => h.2)) (fun _ h => h.1)); have n1_ := Aside0.mk (Kd.S_lower ho0 (below_size (by repeat (first | (with_reducible first | exact HB.out | apply bwA | apply pwN | apply bw1 | refine below_set ?_ (IsS31.ge HI470.out)) | exact HB.out)))); have n2_ := Aside0.mk (hb); have n3_ := Aside0.mk (hi); clear HO475; clear HB; clear HI470; have HO475 := n0_; have HO478 := n1_; have HB := n2_; have HI470 := n3_; clear n0_ n1_ n2_ n3_; (try clear hb); (try clear hb2); (try clear hk); (try clear hi); (try clear ho0); obtain ⟨Ao20, co20, eo20⟩ := Kd.S_slice HO478.out; subst eo20) | ((with_reducible refine gate_callee (f := 27) rfl ?_); refine goesL_ (some 21) rfl rfl Try.func27 (by kernel_rfl) rfl #[.slice Ao18 t473.length co18, .slice Ao20 t476.length co20, .int .i64 a1] rfl (by (try simp only [List.map_toArray, List.map_cons, List.map_nil]); first | done | rfl | (simp only [List.length_drop, List.length_take]; rfl)) ?_; (with_reducible refine (spec_l03Great.calls k _ _ t473 _ _ t476 a1 t479 _ ?side1 ?side2 ?side3 ?side4 A9.out).mono ?_); (case side1 => repeat (first | exact (Kd.R_reads' HO475.out).2.2 | (with_reducible refine Kd.C_alloc ?_ _) | (with_reducible refine Kd.C_drewN ?_ _) | (with_reducible refine Kd.C_drew ?_))); (case side2 => exact (Kd.R_reads' HO475.out).2.1); (case side3 => repeat (first | exact (Kd.S_reads' HO478.out).2.2 | (with_reducible refine Kd.C_alloc ?_ _) | (with_reducible refine Kd.C_drewN ?_ _) | (with_reducible refine Kd.C_drew ?_))); (case side4 => exact (Kd.S_reads' HO478.out).2.1); rintro e w21 ⟨v480, rfl, ho0, hb⟩; refine ⟨_, rfl, ?_⟩; have n0_ := Aside0.mk (Kd.R_below (by (with_reducible repeat (first | apply Kd.R_alloc | apply Kd.R_drewN | apply Kd.R_drew)); exact HO475.out) hb); have n1_ := Aside0.mk (Kd.S_below (by (with_reducible repeat (first | apply Kd.S_alloc | apply Kd.S_drewN | apply Kd.S_drew)); exact HO478.out) hb); have n2_ := Aside0.mk (Kd.S_lower ho0 (below_size (by repeat (first | (with_reducible first | exact HB.out | apply bwA | apply pwN | apply bw1 | refine below_set ?_ (IsS31.ge HI470.out)) | exact HB.out)))); have n3_ := Aside0.mk (IsS31.below (by repeat (first | (with_reducible first | exact HI470.out | apply IsS31.alloc | apply IsS31.drewN | apply IsS31.drew) | exact HI470.out)) hb); have n4_ := Aside0.mk (below_step (by repeat (first | (with_reducible first | exact HB.out | apply bwA | apply pwN | apply bw1 | refine below_set ?_ (IsS31.ge HI470.out)) | exact HB.out)) hb); clear HO475; clear HO478; clear HI470; clear HB; have HO475 := n0_; have HO478 := n1_; have HO481 := n2_; have HI470 := n3_; have HB := n4_; clear n0_ n1_ n2_ n3_ n4_; (try clear hb); (try clear hb2); (try clear hk); (try clear hi); (try clear ho0)))
       have n0_ := Aside0.mk (Kd.R_drew HO475.out)
       have n1_ := Aside0.mk (Kd.S_drew HO478.out)
       have n2_ := Aside0.mk (Kd.S_drew HO481.out)
       have n3_ := Aside0.mk (IsS31.drew HI470.out)
       have n4_ := Aside0.mk (bw1 HB.out)
       clear HO475
       clear HO478
       clear HO481
       clear HI470
       clear HB
       have HO475 := n0_
       have HO478 := n1_
       have HO481 := n2_
       have HI470 := n3_
       have HB := n4_
       clear n0_ n1_ n2_ n3_ n4_
       obtain ⟨Ao23, co23, eo23⟩ := Kd.S_slice HO481.out
       (first | subst eo23 | (injection eo23 with f1_ f2_ f3_; have f4_ := f1_.symm; have f5_ := f3_.symm; clear f1_ f2_ f3_; subst f4_; subst f5_))
       have p482 : 0 ≤ (a1 : Int) := of_decide_eq_true (by first | (with_reducible assumption) | assumption)
       have q482 : a1 < (t479.length : Int) := of_decide_eq_true (by first | (with_reducible assumption) | assumption)
       obtain ⟨ad482, A482_0, c482_0, e482, hx482_0, hl482_0, hi482_0⟩ := at_L12 (Kd.S_reads' HO481.out).2.2 a1 p482 q482
       cases e482
       obtain ⟨ce482, hce482, hMe482, hcc482⟩ := Kd.S_get HO481.out [] a1 p482 (by first | exact q482 | exact of_decide_eq_true (by first | (with_reducible assumption) | assumption) | (have e_ := (Kd.S_reads' HO481.out).1; omega))
       obtain ⟨ve482_0, rfl, ge482_0⟩ := hMe482
       have hv482_0 := hcc482 0 _ rfl
       rw [Nat.add_zero, show ((Kd.slice 2 (Kd.int .i64))).sz = 1 from rfl, Nat.mul_one] at hv482_0
       replace hv482_0 := Option.some.inj (hv482_0.symm.trans hx482_0)
       rw [hv482_0] at ge482_0
       have HL482_0 := Aside0.mk (show Kd.R (Kd.int .i64) 2 _ _ _ _ (rd_L12 t479 a1) from ge482_0)
       clear hv482_0 ge482_0
       clear hcc482 hce482
       have HR482_0 := Aside0.mk hi482_0
       have HC482_0 := Aside0.mk hl482_0
       clear hi482_0 hl482_0
       replace p482 := eq_true p482
       replace q482 := eq_true q482
       have p483 : 0 ≤ ((t473.length : Int) : Int) := of_decide_eq_true (by first | (with_reducible assumption) | assumption)
       have q483 : (t473.length : Int) < ((rd_L12 t479 a1).length : Int) := of_decide_eq_true (by first | (with_reducible assumption) | assumption)
       obtain ⟨ad483, e483, hx483_0⟩ := Kd.at_int (by repeat (first | (with_reducible exact HR482_0.out) | (with_reducible refine Kd.C_alloc ?_ _) | (with_reducible refine Kd.C_drewN ?_ _) | (with_reducible refine Kd.C_drew ?_) | exact HR482_0.out)) (t473.length : Int) p483 q483
       cases e483
       (try simp only [Go.IntWalk.toNatUp] at hx483_0)
       replace p483 := eq_true p483
       replace q483 := eq_true q483
       refine start_ (n := 18) (S := fun w' => w'.cell? (ad482.add (a1).toNat) = some (.slice (some ad483) (rd_L12 t479 a1).length c482_0) ∧ w'.cell? (ad483.add t473.length) = some (.int .i64 (rd (rd_L12 t479 a1) (t473.length : Int)))) (ds := []) #[false, false, false, false, false, false, false, false, false, false, false, false, false, false, false, false, false, false] (by kernel_rfl) rfl rfl ⟨hx482_0, hx483_0⟩ (fun hHeld => ?_); refine with_tabW spec_GreatestOf.tab8 spec_GreatestOf.bits8 (fun HT_ HW_ => ?_)
       generalize w21.drew = w22 at HO475 HO478 HO481 HI470 HB HL482_0 HR482_0 hx482_0 hx483_0 hHeld ⊢
       refine pu_ 0 (some 22) HT_ ?_
       refine pu_ 1 (some 23) HT_ ?_
       refine pu_ 2 (some 24) HT_ ?_
       refine pu_ 4 (some 26) HT_ ?_
       refine pu_ 5 (some 27) HT_ ?_
       refine pu_ 8 (some 30) HT_ ?_
       refine pu_ 9 (some 31) HT_ ?_
       refine pu_ 10 (some 32) HT_ ?_
       refine pu_ 11 (some 33) HT_ ?_
       refine pu_ 12 (some 34) HT_ ?_
       refine pu_ 13 (some 35) HT_ ?_
       refine tk_ 3 (some 25) HT_ HW_ hHeld rfl (by rintro w' ⟨s0, s1⟩; go_simp; with_reducible rfl) ?_
       refine pu_ 6 (some 28) HT_ ?_
       refine tk_ 7 (some 29) HT_ HW_ hHeld rfl (by rintro w' ⟨s0, s1⟩; go_simp; with_reducible rfl) ?_
       refine on_ 14 (some 36) HT_ fun K hK => ?_
       refine goes_ Try.func28 (by kernel_rfl) rfl #[.slice Ao18 t473.length co18, .slice Ao20 t476.length co20, .slice (some ad482) t479.length co23, .int .i64 a1, .int .i64 (t473.length : Int)] (by rfl) rfl rfl (by (try simp only [List.map_toArray, List.map_cons, List.map_nil]); first | done | rfl | (simp only [List.length_drop, List.length_take]; rfl)) ?_
       with_reducible refine (spec_l03Greatest.calls k _ _ t473 _ _ t476 _ _ t479 a1 (t473.length : Int) t484 _ ?side1 ?side2 ?side3 ?side4 ?side5 ?side6 A14.out).mono ?_
       (case side1 => repeat (first | exact (Kd.R_reads' HO475.out).2.2 | (with_reducible refine Kd.C_alloc ?_ _) | (with_reducible refine Kd.C_drewN ?_ _) | (with_reducible refine Kd.C_drew ?_)))
       (case side2 => exact (Kd.R_reads' HO475.out).2.1)
       (case side3 => repeat (first | exact (Kd.S_reads' HO478.out).2.2 | (with_reducible refine Kd.C_alloc ?_ _) | (with_reducible refine Kd.C_drewN ?_ _) | (with_reducible refine Kd.C_drew ?_)))
       (case side4 => exact (Kd.S_reads' HO478.out).2.1)
       (case side5 => repeat (first | exact (Kd.S_reads' HO481.out).2.2 | (with_reducible refine Kd.C_alloc ?_ _) | (with_reducible refine Kd.C_drewN ?_ _) | (with_reducible refine Kd.C_drew ?_)))
       (case side6 => exact (Kd.S_reads' HO481.out).2.1)
       rintro e w24 ⟨rfl, hb⟩
       have HS0_ := (hb.cell (World.block_lt_of_cell? _ _ (hHeld.1))).trans (hHeld.1)
       have HS1_ := (hb.cell (World.block_lt_of_cell? _ _ (hHeld.2))).trans (hHeld.2)
       refine ⟨_, rfl, ?_⟩
       have n0_ := Aside0.mk (Kd.R_below (by (with_reducible repeat (first | apply Kd.R_alloc | apply Kd.R_drewN | apply Kd.R_drew)); exact HO475.out) hb)
       have n1_ := Aside0.mk (Kd.S_below (by (with_reducible repeat (first | apply Kd.S_alloc | apply Kd.S_drewN | apply Kd.S_drew)); exact HO478.out) hb)
       have n2_ := Aside0.mk (Kd.S_below (by (with_reducible repeat (first | apply Kd.S_alloc | apply Kd.S_drewN | apply Kd.S_drew)); exact HO481.out) hb)
       have n3_ := Aside0.mk (Kd.R_below (by (with_reducible repeat (first | apply Kd.R_alloc | apply Kd.R_drewN | apply Kd.R_drew)); exact HL482_0.out) hb)
       have n4_ := Aside0.mk (IsS31.below (by repeat (first | (with_reducible first | exact HI470.out | apply IsS31.alloc | apply IsS31.drewN | apply IsS31.drew) | exact HI470.out)) hb)
       have n5_ := Aside0.mk (Kd.C_below (by repeat (first | (with_reducible exact HR482_0.out) | (with_reducible refine Kd.C_alloc ?_ _) | (with_reducible refine Kd.C_drewN ?_ _) | (with_reducible refine Kd.C_drew ?_) | exact HR482_0.out)) hb)
       have n6_ := Aside0.mk (below_step (by repeat (first | (with_reducible first | exact HB.out | apply bwA | apply pwN | apply bw1 | refine below_set ?_ (IsS31.ge HI470.out)) | exact HB.out)) hb)
       clear HO475
       clear HO478
       clear HO481
       clear HL482_0
       clear HI470
       clear HR482_0
       clear HB
       have HO475 := n0_
       have HO478 := n1_
       have HO481 := n2_
       have HL482_0 := n3_
       have HI470 := n4_
       have HR482_0 := n5_
       have HB := n6_
       clear n0_ n1_ n2_ n3_ n4_ n5_ n6_
       (try clear hb)
       (try clear hb2)
       (try clear hk)
       (try clear hi)
       refine hK.out _ _ ⟨HS0_, HS1_⟩ (fun hHeld => ?_)
       clear hK K
       refine nm_ (some 36) ?_
       refine pu_ 15 (some 4) HT_ ?_
       refine pu_ 16 (some 5) HT_ ?_
       refine pu_ 17 (some 6) HT_ ?_
       refine done_ (done_of HT_.out (by kernel_rfl)) ?_
       try go_wp2
       go_ret3
       exact ⟨by first | rfl | (simp [errW_none, errW_some, i64_w]; done) | (simp [errW_none, errW_some] <;> rfl) | (simp [*, errW_none, errW_some] <;> rfl), by repeat (first | (with_reducible first | exact HB.out | apply bwA | apply pwN | apply bw1 | refine below_set ?_ (IsS31.ge HI470.out)) | exact HB.out)⟩
      ·rw [if_neg c13] at H
       exact absurd H (by simp)
     ·rw [if_neg c12] at H
      exact absurd H (by simp)
    ·rw [if_neg c11] at H
     exact absurd H (by simp)
   ·rw [if_neg c10] at H
    exact absurd H (by simp)
  ·replace c6 := Bool.eq_false_iff.mpr c6
   subst c6
   have H1 : (some (0, (⟨#[]⟩ : ByteArray), 2)) = some (r1, r2, r3) := by rw [if_neg (show ¬ (false = true) by decide)] at H; exact H
   clear H
   have H := H1
   clear H1
   simp only [Option.some.injEq, Prod.mk.injEq] at H
   obtain ⟨rfl, rfl, rfl⟩ := H
   go_enter Try.func8, Try.ntmps8
   go_wp2_with (first | ((with_reducible refine gate_dst (N := 2) rfl ?_); refine box_event ?hg (N := 2) ?hd (cs := #[.slice A0_0 l0_0.length c0_0, .slice A0_1 l0_1.length c0_1]) (t := 31) ?hr ?_; (case hd => rfl); (case hg => rfl); (case hr => first | (go_simp; done) | (go_simp; rfl)); intro gb470 hg w25 hbox hb; have n0_ := Aside0.mk (below_step (by repeat (first | (with_reducible first | exact HB.out | apply bwA | apply pwN | apply bw1) | exact HB.out)) hb); have n1_ := Aside0.mk (hbox); have n2_ := Aside0.mk ((by rw [hg]; exact (below_size (by repeat (first | (with_reducible first | exact HB.out | apply bwA | apply pwN | apply bw1) | exact HB.out))) : w.heap.size ≤ gb470)); have n3_ := Aside0.mk (n2_.out); clear HB; have HB := n0_; have BK470 := n1_; have GW470 := n2_; have GE470 := n3_; clear n0_ n1_ n2_ n3_; clear hb hbox hg; have HI470 := Aside0.mk (show IsS31 w w25 gb470 l0_0 l0_1 from ⟨A0_0, c0_0, A0_1, c0_1, BK470.out, GW470.out, HR0_0.out, HR0_1.out⟩)) | ((with_reducible refine gate_callee (f := 23) rfl ?_); refine goesL_ (some 10) rfl rfl Try.func23 (by kernel_rfl) rfl #[.pointer (some ⟨gb470, 0, none⟩)] rfl (by (try simp only [List.map_toArray, List.map_cons, List.map_nil]); first | done | rfl | (simp only [List.length_drop, List.length_take]; rfl)) ?_; (with_reducible refine (spec_l03Ok.calls gb470 l0_0 l0_1 true w _ ?side1 ?side2 A3.out).mono ?_); (case side1 => repeat (first | (with_reducible first | exact HI470.out | apply IsS31.alloc | apply IsS31.drewN | apply IsS31.drew) | exact HI470.out)); (case side2 => repeat (first | (with_reducible first | exact HB.out | apply bwA | apply pwN | apply bw1 | refine below_set ?_ (IsS31.ge HI470.out)) | exact HB.out)); rintro e w26 ⟨rfl, hi, hb, hk⟩; refine ⟨_, rfl, ?_⟩; have n0_ := Aside0.mk (hb); have n1_ := Aside0.mk (hi); clear HB; clear HI470; have HB := n0_; have HI470 := n1_; clear n0_ n1_; (try clear hb); (try clear hb2); (try clear hk); (try clear hi)) | ((with_reducible refine gate_callee (f := 24) rfl ?_); refine goesL_ (some 13) rfl rfl Try.func24 (by kernel_rfl) rfl #[.int .i64 a1, .int .i64 0, .int .i64 16] rfl (by (try simp only [List.map_toArray, List.map_cons, List.map_nil]); first | done | rfl | (simp only [List.length_drop, List.length_take]; rfl)) ?_; (with_reducible refine (spec_l00In.calls a1 0 16 false _ A5.out).mono ?_); rintro e w' ⟨rfl, ⟨nd, rfl⟩⟩; refine ⟨_, rfl, ?_⟩))
   go_ret3
   exact ⟨by first | rfl | (simp [errW_none, errW_some, i64_w]; done) | (simp [errW_none, errW_some] <;> rfl) | (simp [*, errW_none, errW_some] <;> rfl), by repeat (first | (with_reducible first | exact HB.out | apply bwA | apply pwN | apply bw1 | refine below_set ?_ (IsS31.ge HI470.out)) | exact HB.out)⟩
 ·replace c4 := Bool.eq_false_iff.mpr c4
  subst c4
  have H1 : (some (0, (⟨#[]⟩ : ByteArray), 1)) = some (r1, r2, r3) := by rw [if_neg (show ¬ (false = true) by decide)] at H; exact H
  clear H
  have H := H1
  clear H1
  simp only [Option.some.injEq, Prod.mk.injEq] at H
  obtain ⟨rfl, rfl, rfl⟩ := H
  go_enter Try.func8, Try.ntmps8
  go_wp2_with (first | ((with_reducible refine gate_dst (N := 2) rfl ?_); refine box_event ?hg (N := 2) ?hd (cs := #[.slice A0_0 l0_0.length c0_0, .slice A0_1 l0_1.length c0_1]) (t := 31) ?hr ?_; (case hd => rfl); (case hg => rfl); (case hr => first | (go_simp; done) | (go_simp; rfl)); intro gb470 hg w27 hbox hb; have n0_ := Aside0.mk (below_step (by repeat (first | (with_reducible first | exact HB.out | apply bwA | apply pwN | apply bw1) | exact HB.out)) hb); have n1_ := Aside0.mk (hbox); have n2_ := Aside0.mk ((by rw [hg]; exact (below_size (by repeat (first | (with_reducible first | exact HB.out | apply bwA | apply pwN | apply bw1) | exact HB.out))) : w.heap.size ≤ gb470)); have n3_ := Aside0.mk (n2_.out); clear HB; have HB := n0_; have BK470 := n1_; have GW470 := n2_; have GE470 := n3_; clear n0_ n1_ n2_ n3_; clear hb hbox hg; have HI470 := Aside0.mk (show IsS31 w w27 gb470 l0_0 l0_1 from ⟨A0_0, c0_0, A0_1, c0_1, BK470.out, GW470.out, HR0_0.out, HR0_1.out⟩)) | ((with_reducible refine gate_callee (f := 23) rfl ?_); refine goesL_ (some 10) rfl rfl Try.func23 (by kernel_rfl) rfl #[.pointer (some ⟨gb470, 0, none⟩)] rfl (by (try simp only [List.map_toArray, List.map_cons, List.map_nil]); first | done | rfl | (simp only [List.length_drop, List.length_take]; rfl)) ?_; (with_reducible refine (spec_l03Ok.calls gb470 l0_0 l0_1 false w _ ?side1 ?side2 A3.out).mono ?_); (case side1 => repeat (first | (with_reducible first | exact HI470.out | apply IsS31.alloc | apply IsS31.drewN | apply IsS31.drew) | exact HI470.out)); (case side2 => repeat (first | (with_reducible first | exact HB.out | apply bwA | apply pwN | apply bw1 | refine below_set ?_ (IsS31.ge HI470.out)) | exact HB.out)); rintro e w28 ⟨rfl, hi, hb, hk⟩; refine ⟨_, rfl, ?_⟩; have n0_ := Aside0.mk (hb); have n1_ := Aside0.mk (hi); clear HB; clear HI470; have HB := n0_; have HI470 := n1_; clear n0_ n1_; (try clear hb); (try clear hb2); (try clear hk); (try clear hi)))
  go_ret3
  exact ⟨by first | rfl | (simp [errW_none, errW_some, i64_w]; done) | (simp [errW_none, errW_some] <;> rfl) | (simp [*, errW_none, errW_some] <;> rfl), by repeat (first | (with_reducible first | exact HB.out | apply bwA | apply pwN | apply bw1 | refine below_set ?_ (IsS31.ge HI470.out)) | exact HB.out)⟩
end Go.Proofs.Ytlepbhlbooajmaa.Q
namespace Go.Proofs.Ytlepbhlbooajmaa.Pure
open Go.RowKit Go.Proofs.Ytlepbhlbooajmaa.Ext Go.Proofs.Ytlepbhlbooajmaa.Q Go.Proofs.YtlepbhlbooajmaaW.PrintWords Go.Proofs.YtlepbhlbooajmaaW.PrintLast Go.Proofs.YtlepbhlbooajmaaW.PrintMore
set_option linter.unusedVariables false
set_option linter.unusedSimpArgs false
def txtG (s : Sys) (n last i : Nat) : ByteArray := if (bstG s n i last).1 = (bstG s n s.m last).1 then (bstG s n i last).2 else ⟨#[]⟩
theorem nil_size {t : ByteArray} (h : t.toList = ([] : List UInt8)) : t.size = 0 := by
 have : t.toList = t.data.toList := ByteArray.toList_eq t
 rw [this] at h
 show t.data.size = 0
 rw [← Array.length_toList, h]; rfl
theorem size_nil {t : ByteArray} (h : t.size = 0) : t.toList = ([] : List UInt8) := by
 rw [ByteArray.toList_eq t]
 have : t.data.size = 0 := h
 rw [← Array.length_toList] at this
 exact List.eq_nil_of_length_eq_zero this
theorem txtG_skip (s : Sys) (ho : s.ok) {n last i : Nat} (hi : i < s.m) (h : s.nx last i = true → (celG s n i).1 ≠ (bstG s n s.m last).1 ∨ celG s n i = noGr) : txtG s n last (i + 1) = txtG s n last i := by
 unfold txtG
 rw [bst_succ s ho hi]
 by_cases hx : s.nx last i = true
 ·rw [if_pos hx]
  by_cases hno : celG s n i = noGr
  ·rw [hno, better_no _ (bst_ok s ho n i last).1]; rfl
  ·have hne : (celG s n i).1 ≠ (bstG s n s.m last).1 := (h hx).resolve_right hno
   have hle := cel_le s ho (k := n) hi hx
   by_cases hb : betterG (celG s n i) (bstG s n i last) = true
   ·rw [if_pos hb]
    have hf := better_fst (celG s n i) (bstG s n i last)
    rw [if_pos hb] at hf
    have hlt : (bstG s n i last).1 ≤ (celG s n i).1 := by split at hf <;> omega
    rw [if_neg hne, if_neg (show ¬ (bstG s n i last).1 = (bstG s n s.m last).1 by omega)]
   ·rw [if_neg hb]
 ·rw [if_neg hx]
theorem txtG_hit (s : Sys) (ho : s.ok) {n last i : Nat} (hi : i < s.m) (hx : s.nx last i = true) (h0 : 0 ≤ (celG s n i).1) (hc : (celG s n i).1 = (bstG s n s.m last).1) :
  txtG s n last (i + 1) = if (txtG s n last i).toList = ([] : List UInt8) then (celG s n i).2 else if Op.bytesLess (celG s n i).2.toList (txtG s n last i).toList = true then (celG s n i).2 else txtG s n last i := by
 have hle := bst_le s ho n last (s.m - i) i (by omega)
 have hsz := bst_size s ho n last i (by omega)
 unfold txtG
 rw [bst_succ s ho hi, if_pos hx]
 by_cases ho1 : (bstG s n i last).1 = (bstG s n s.m last).1
 ·have hs1 := hsz (by omega)
  have hne : ¬ (bstG s n i last).2.toList = ([] : List UInt8) := fun h => by have := nil_size h; omega
  rw [if_pos ho1, if_neg hne]
  have hb : betterG (celG s n i) (bstG s n i last) = Op.bytesLess (celG s n i).2.toList (bstG s n i last).2.toList := by
   unfold betterG
   rw [decide_eq_false (show ¬ (bstG s n i last).1 < (celG s n i).1 by omega), Bool.false_or, show ((celG s n i).1 == (bstG s n i last).1) = true from beq_iff_eq.2 (by omega), Bool.true_and, decide_eq_true h0, Bool.true_and]
  rw [hb]
  by_cases hl : Op.bytesLess (celG s n i).2.toList (bstG s n i last).2.toList = true
  ·rw [if_pos hl, if_pos hl, if_pos hc]
  ·rw [if_neg hl, if_neg hl, if_pos ho1]
 ·have hnl : (⟨#[]⟩ : ByteArray).toList = ([] : List UInt8) := size_nil rfl
  rw [if_neg ho1, if_pos hnl]
  have hb : betterG (celG s n i) (bstG s n i last) = true := by
   unfold betterG
   rw [decide_eq_true (show (bstG s n i last).1 < (celG s n i).1 by omega)]
   rfl
  rw [if_pos hb, if_pos hc]
theorem greatest_l0 (s : Sys) (ho : s.ok) (P : List Pc) (X : List (List Bool)) (hR : Ref s P X) (N n last : Nat) (h0 : n ≠ 0) (hn : n < N) (hN : N ≤ 1000) (hl : last ≤ s.m) (K : Nat)
  (hrec : ∀ p k', p < s.m → tsz s p ≤ (n : Int) → K < k' → spec_l03Greatest.f k' P X (tabGT s N) (remG s n p : Int) p = some (topG s (remG s n p) p).2) :
  ∀ (d i k : Nat), i + d = s.m → K + 3 + 2 * d < k → spec_l03Greatest.l0 k P X (tabGT s N) n last (txtG s n last i) i = some (topG s n last).2 := by
 have hm1 := ho.m1
 have hlen := hR.len
 have hnl := hR.nlen
 have hxl := hR.nxl last hl
 intro d
 induction d with
 | zero =>
  intro i k hi hK
  obtain ⟨k, rfl⟩ : ∃ k', k = k' + 1 := ⟨k - 1, by omega⟩
  obtain rfl : i = s.m := by omega
  unfold spec_l03Greatest.l0
  rw [if_neg (by omega)]
  unfold txtG topG
  rw [if_pos rfl, if_neg h0]
 | succ d ih =>
  intro i k hi hK
  obtain ⟨k, rfl⟩ : ∃ k', k = k' + 2 := ⟨k - 2, by omega⟩
  have hlt : i < s.m := by omega
  have hv0 := ho.v0 i hlt
  have hv1 := ho.v1 i hlt
  have t0 : 1 ≤ tsz s i := ho.l0 i hlt
  have t1 : tsz s i ≤ 2 := ho.l1 i hlt
  have hT : ((rd_T108 P (i : Int)).f0.size : Int) = tsz s i := by rw [hR.txt i hlt]; rfl
  have hxl' : (X.getD (last : Int).toNat []).length = s.m := hxl
  have hnx : rdOf false (X.getD (last : Int).toNat []) (i : Int) = s.nx last i := hR.nxt last i hl hlt
  have htl := tabGT_len s N
  have hskip : ∀ y, txtG s n last (i + 1) = txtG s n last i → spec_l03Greatest.j1 (k + 1) P X (tabGT s N) n last (txtG s n last i) i y true = some (topG s n last).2 := by
   intro y e
   unfold spec_l03Greatest.j1
   rw [if_pos rfl, wsucc i (by omega), ← e]
   exact ih (i + 1) k (by omega) (by omega)
  unfold spec_l03Greatest.l0
  delta rd_L11 rd_L12 rd_L15 rd_L16 rd_L18 rd_L5 rd_L6
  rw [if_pos (by omega), if_pos (by omega), if_pos (by omega), if_pos (by omega), if_pos (by omega), hnx, hT, show wrap64 ((n : Int) - tsz s i) = (n : Int) - tsz s i from by unfold wrap64; omega]
  by_cases hx : s.nx last i = true
  ·rw [if_pos hx]
   by_cases hr : tsz s i ≤ (n : Int)
   ·obtain ⟨hr1, hr2⟩ := rem_le s hr t0
    have e1 : (tabGT s N).getD (remG s n i) [] = rowGT s (remG s n i) := tabGT_get s (by omega)
    have e2 : (tabGT s N).getD n [] = rowGT s n := tabGT_get s hn
    obtain ⟨u0, u1, u2⟩ := top_ok s ho (remG s n i) i
    rw [if_neg (by omega), if_pos (by omega), if_pos (by omega), hr1, Int.toNat_natCast, e1, rowGT_len, if_pos (by omega), rowGT_get s (by omega)]
    by_cases hu : (topG s (remG s n i) i).1 < 0
    ·rw [if_pos hu]
     exact hskip _ (txtG_skip s ho hlt fun _ => Or.inr (by unfold celG; rw [if_neg (fun h => by omega)]))
    ·have ec : celG s n i = (s.V i + (topG s (remG s n i) i).1, s.T i ++ (topG s (remG s n i) i).2) := by unfold celG; rw [if_pos ⟨hr, by omega⟩]
     have etop : topG s n last = bstG s n s.m last := by unfold topG; rw [if_neg h0]
     rw [if_neg hu, if_pos (by omega), if_pos (by omega), Int.toNat_natCast, e2, rowGT_len, if_pos (by omega), rowGT_get s hl, hR.val i hlt, show wrap64 (s.V i + (topG s (remG s n i) i).1) = s.V i + (topG s (remG s n i) i).1 from by unfold wrap64; omega]
     by_cases hc : s.V i + (topG s (remG s n i) i).1 = (topG s n last).1
     ·rw [show (s.V i + (topG s (remG s n i) i).1 != (topG s n last).1) = false from bne_eq_false_iff_eq.2 hc]
      unfold spec_l03Greatest.j1
      have hrc := hrec i k hlt hr (by omega)
      have hTs : (s.T i).size ≤ 2 := by unfold tsz at t1; omega
      have hnx2 := txtG_hit s ho hlt hx (by rw [ec]; show 0 ≤ s.V i + _; omega) (by rw [ec, ← etop]; exact hc)
      rw [ec] at hnx2
      dsimp only at hnx2
      rw [if_neg (by decide), if_pos (by omega), if_pos (by omega), hrc, Option.bind_some, hR.txt i hlt, if_pos (by omega), wsucc i (by omega)]
      by_cases hb : (txtG s n last i).toList = ([] : List UInt8)
      ·rw [if_pos hb] at hnx2 ⊢
       rw [← hnx2]
       exact ih (i + 1) k (by omega) (by omega)
      ·rw [if_neg hb] at hnx2 ⊢
       by_cases hb2 : Op.bytesLess (s.T i ++ (topG s (remG s n i) i).2).toList (txtG s n last i).toList = true
       ·rw [if_pos hb2] at hnx2 ⊢
        rw [← hnx2]
        exact ih (i + 1) k (by omega) (by omega)
       ·rw [if_neg hb2] at hnx2 ⊢
        rw [← hnx2]
        exact ih (i + 1) k (by omega) (by omega)
     ·rw [show (s.V i + (topG s (remG s n i) i).1 != (topG s n last).1) = true from bne_iff_ne.2 hc]
      exact hskip _ (txtG_skip s ho hlt fun _ => Or.inl (by rw [ec, ← etop]; exact hc))
   ·rw [if_pos (by omega)]
    exact hskip _ (txtG_skip s ho hlt fun _ => Or.inr (by unfold celG; rw [if_neg (fun h => hr h.1)]))
  ·rw [if_neg hx]
   exact hskip _ (txtG_skip s ho hlt fun h => absurd h hx)
theorem greatest_eq (s : Sys) (ho : s.ok) (P : List Pc) (X : List (List Bool)) (hR : Ref s P X) (N : Nat) (hN : N ≤ 1000) :
  ∀ (f n last k : Nat), n < f → n < N → last ≤ s.m → (n + 1) * 40 < k → spec_l03Greatest.f k P X (tabGT s N) n last = some (topG s n last).2 := by
 have hm1 := ho.m1
 intro f
 induction f with
 | zero => intro n last k h; omega
 | succ f ih =>
  intro n last k h hn hl hK
  obtain ⟨k, rfl⟩ : ∃ k', k = k' + 1 := ⟨k - 1, by omega⟩
  unfold spec_l03Greatest.f
  by_cases h0 : n = 0
  ·subst h0
   rw [if_pos (by omega)]
   rfl
  ·rw [if_neg (by omega)]
   have hz : txtG s n last 0 = (⟨#[]⟩ : ByteArray) := by unfold txtG; rw [bst_zero]; split <;> rfl
   rw [← hz]
   refine greatest_l0 s ho P X hR N n last h0 hn hN hl (n * 40) (fun p k' hp hv hk' => ?_) s.m 0 k (by omega) (by omega)
   have hr := rem_le s hv (ho.l0 p hp)
   refine ih _ p k' (by omega) (by omega) (by omega) (Nat.lt_of_le_of_lt ?_ hk')
   exact Nat.mul_le_mul_right 40 (by omega)
def greatC (l0 : List Sg) (l1 : List P2) (n : Int) : Int × ByteArray × Int :=
 if sysB l0 l1 = true then (if 0 ≤ n ∧ n ≤ 16 then ((topG (sysOf l0 l1) n.toNat (sysOf l0 l1).m).1, (topG (sysOf l0 l1) n.toNat (sysOf l0 l1).m).2, 0) else (0, noText, 2)) else (0, noText, 1)
theorem impl_great_eq {l0 : List Sg} {l1 : List P2} (hw : wfSys l0 l1) (n : Int) : impl_GreatestOf.f l0 l1 n = some (greatC l0 l1 n) := by
 unfold impl_GreatestOf.f
 rw [if_pos hw]
 refine congrArg some ?_
 unfold gOf greatC
 by_cases hv : sysB l0 l1 = true
 ·rw [if_pos hv, if_pos hv]
  by_cases hn : 0 ≤ n ∧ n ≤ 16
  ·rw [if_pos (show inB n 0 16 = true by unfold inB; simp [hn]), if_pos hn]
   by_cases h0 : n = 0
   ·subst h0; rw [if_pos rfl]; rfl
   ·rw [if_neg h0]
    unfold topG
    rw [if_neg (show ¬ n.toNat = 0 by omega)]
    rfl
  ·rw [if_neg (show ¬ inB n 0 16 = true by unfold inB; simp; omega), if_neg hn]; rfl
 ·rw [if_neg hv, if_neg hv]; rfl
theorem spec_great_eq {l0 : List Sg} {l1 : List P2} (hw : wfSys l0 l1) (n : Int) {k : Nat} (hk : 4000000 < k) : spec_GreatestOf.f k l0 l1 n = some (greatC l0 l1 n) := by
 unfold spec_GreatestOf.f greatC spec_l03Ok.f
 rw [if_pos hw, Option.bind_some]
 by_cases hv : sysB l0 l1 = true
 ·have h := val_of hv
  have hok := sysOf_ok h
  rw [if_pos hv, if_pos hv, l00In_f, Option.bind_some]
  by_cases hn : 0 ≤ n ∧ n ≤ 16
  ·obtain ⟨m, rfl⟩ : ∃ m : Nat, n = (m : Int) := ⟨n.toNat, by omega⟩
   have hlen := pieces_len l0 l1
   have hm : (sysOf l0 l1).m = l0.length + l1.length := rfl
   have hts := tabGT_len (sysOf l0 l1) (m + 1)
   have e2 : (tabGT (sysOf l0 l1) (m + 1)).getD m [] = rowGT (sysOf l0 l1) m := tabGT_get _ (by omega)
   rw [if_pos (by simp [hn]), if_pos hn, pieces_eq hw h (by omega), Option.bind_some, next_eq h (by omega), Option.bind_some, great_eq _ hok _ _ (ref_of h) m (by omega) (by omega), Option.bind_some]
   delta rd_L11 rd_L12 rd_L15 rd_L16 rd_L18 rd_L5 rd_L6
   rw [if_pos (by omega), if_pos (by omega), if_pos (by omega), Int.toNat_natCast, e2, rowGT_len, if_pos (by omega), hlen, ← hm, rowGT_get _ (Nat.le_refl _)]
   have hg := greatest_eq (sysOf l0 l1) hok (piecesL l0 l1) (nextL (sysOf l0 l1)) (ref_of h) (m + 1) (by omega) (m + 1) m (sysOf l0 l1).m k (by omega) (by omega) (Nat.le_refl _) (by omega)
   rw [hg, Option.bind_some]
  ·rw [if_neg (by simp; omega), if_neg hn]; rfl
 ·rw [if_neg hv, if_neg hv]; rfl
end Go.Proofs.Ytlepbhlbooajmaa.Pure
namespace Go.Proofs.Ytlepbhlbooajmaa.Ext
end Go.Proofs.Ytlepbhlbooajmaa.Ext
namespace Go.Proofs.Ytlepbhlbooajmaa.Q
open Go.Proofs.Ytlepbhlbooajmaa.Ext
open Go.RowKit Go.Proofs.YtlepbhlbooajmaaW.PrintWords Go.Proofs.YtlepbhlbooajmaaW.PrintLast Go.Proofs.YtlepbhlbooajmaaW.PrintMore
attribute [local go_sem] max2_int min2_int max_two min_two max_three min_three max_four min_four
set_option linter.unusedVariables false
set_option linter.unusedSimpArgs false
def laws_FnExactGreatestOf.j0 : Nat → Bool → List (S113) → List (S104) → List (S102) → List (S104) → Option (Bool)
 | 0, _, _, _, _, _ => none
 | k + 1, x47, x486000, x486001, x503000, x503001 => if x47 = true then (some false) else ((laws_toSystem.f k x486000 x486001).bind fun bt506 => ((laws_eqSystem.f k x503000 x503001 bt506.1 bt506.2).bind fun t512 => (if t512 = true then (some true) else (some false))))
def laws_FnExactGreatestOf.f (k : Nat) (l0_0 : List (S113)) (l0_1 : List (S104)) (a1 : Int) : Option (Bool) := (laws_szSystem.f l0_0 l0_1 1048576).bind fun t486 => (if t486 < 0 then (some true) else ((laws_toSystem.f k l0_0 l0_1).bind fun bt487 => ((spec_GreatestOf.f k bt487.1 bt487.2 a1).bind fun bt493 => ((laws_toSystem.f k l0_0 l0_1).bind fun bt496 => ((impl_GreatestOf.f bt496.1 bt496.2 a1).bind fun bt503 => (if bt503.1 = bt493.1 then (if bt503.2.1.toList = bt493.2.1.toList then (laws_FnExactGreatestOf.j0 k (bt503.2.2 != bt493.2.2) l0_0 l0_1 bt496.1 bt496.2) else (laws_FnExactGreatestOf.j0 k true l0_0 l0_1 bt496.1 bt496.2)) else (laws_FnExactGreatestOf.j0 k true l0_0 l0_1 bt496.1 bt496.2)))))))
set_option maxHeartbeats 8000000 in
set_option maxRecDepth 100000 in
theorem laws_FnExactGreatestOf.calls (k : Nat) (A0_0 : Option Addr) (c0_0 : Nat) (l0_0 : List (S113)) (A0_1 : Option Addr) (c0_1 : Nat) (l0_1 : List (S104)) (a1 : Int) (r : Bool) (w : World) (hr0_0 : Kd.C k113 w A0_0 l0_0.length l0_0) (hc0_0 : l0_0.length ≤ c0_0) (hr0_1 : Kd.C k104 w A0_1 l0_1.length l0_1) (hc0_1 : l0_1.length ≤ c0_1) (h : laws_FnExactGreatestOf.f k l0_0 l0_1 a1 = some r) :
  Calls Try.prog 3 #[.agg #[.slice A0_0 l0_0.length c0_0, .slice A0_1 l0_1.length c0_1], .int .i64 a1] w fun e w' => e = .returned (.bool r) ∧ Below w.heap.size w w' := by
 have hu25 := Try.underlying25
 have hu31 := Try.underlying31
 have HR0_0 := Aside0.mk hr0_0
 have HC0_0 := Aside0.mk hc0_0
 clear hr0_0 hc0_0
 have HR0_1 := Aside0.mk hr0_1
 have HC0_1 := Aside0.mk hc0_1
 clear hr0_1 hc0_1
 have HB := Aside0.mk (Below.refl w.heap.size w)
 have H : ((laws_szSystem.f l0_0 l0_1 1048576).bind fun t486 => (if t486 < 0 then (some true) else ((laws_toSystem.f k l0_0 l0_1).bind fun bt487 => ((spec_GreatestOf.f k bt487.1 bt487.2 a1).bind fun bt493 => ((laws_toSystem.f k l0_0 l0_1).bind fun bt496 => ((impl_GreatestOf.f bt496.1 bt496.2 a1).bind fun bt503 => (if bt503.1 = bt493.1 then (if bt503.2.1.toList = bt493.2.1.toList then (laws_FnExactGreatestOf.j0 k (bt503.2.2 != bt493.2.2) l0_0 l0_1 bt496.1 bt496.2) else (laws_FnExactGreatestOf.j0 k true l0_0 l0_1 bt496.1 bt496.2)) else (laws_FnExactGreatestOf.j0 k true l0_0 l0_1 bt496.1 bt496.2)))))))) = some r := h
 clear h
 replace H := Option.bind_eq_some_iff.mp H
 obtain ⟨t486, A30, H⟩ := H
 (try dsimp only at H)
 have A3 := Aside0.mk A30
 clear A30
 by_cases c4 : t486 < 0
 ·rw [if_pos c4] at H
  have c4b0 : decide (t486 < 0) = true := decide_eq_true c4
  clear c4
  obtain rfl := Option.some.inj H
  go_enter Try.func3, Try.ntmps3
  go_wp2_with (first | ((with_reducible refine gate_dst (N := 2) rfl ?_); refine box_event ?hg (N := 2) ?hd (cs := #[.slice A0_0 l0_0.length c0_0, .slice A0_1 l0_1.length c0_1]) (t := 25) ?hr ?_; (case hd => rfl); (case hg => rfl); (case hr => first | (go_simp; done) | (go_simp; rfl)); intro gb485 hg w5 hbox hb; have n0_ := Aside0.mk (below_step (by repeat (first | (with_reducible first | exact HB.out | apply bwA | apply pwN | apply bw1) | exact HB.out)) hb); have n1_ := Aside0.mk (hbox); have n2_ := Aside0.mk ((by rw [hg]; exact (below_size (by repeat (first | (with_reducible first | exact HB.out | apply bwA | apply pwN | apply bw1) | exact HB.out))) : w.heap.size ≤ gb485)); have n3_ := Aside0.mk (n2_.out); clear HB; have HB := n0_; have BK485 := n1_; have GW485 := n2_; have GE485 := n3_; clear n0_ n1_ n2_ n3_; clear hb hbox hg; have hcz6_0 : w5.cell? ⟨gb485, 0, none⟩ = some (.slice A0_0 l0_0.length c0_0) := (blk_cell BK485.out 0).trans rfl; have hcz6_1 : w5.cell? ⟨gb485, 1, none⟩ = some (.slice A0_1 l0_1.length c0_1) := (blk_cell BK485.out 1).trans rfl; have hfz6_0 := blk_frozen BK485.out 0; have hfz6_1 := blk_frozen BK485.out 1) | ((with_reducible refine gate_callee (f := 7) rfl ?_); refine goesL_ (some 15) rfl rfl Try.func7 (by kernel_rfl) rfl #[.agg #[.slice A0_0 l0_0.length c0_0, .slice A0_1 l0_1.length c0_1], .int .i64 1048576] rfl (by (try simp only [List.map_toArray, List.map_cons, List.map_nil]); first | done | rfl | (simp only [List.length_drop, List.length_take]; rfl)) ?_; (with_reducible refine (laws_szSystem.calls _ _ l0_0 _ _ l0_1 1048576 t486 _ ?side1 ?side2 ?side3 ?side4 A3.out).mono ?_); (case side1 => repeat (first | exact (Kd.C_below HR0_0.out HB.out) | (with_reducible refine Kd.C_alloc ?_ _) | (with_reducible refine Kd.C_drewN ?_ _) | (with_reducible refine Kd.C_drew ?_))); (case side2 => exact HC0_0.out); (case side3 => repeat (first | exact (Kd.C_below HR0_1.out HB.out) | (with_reducible refine Kd.C_alloc ?_ _) | (with_reducible refine Kd.C_drewN ?_ _) | (with_reducible refine Kd.C_drew ?_))); (case side4 => exact HC0_1.out); rintro e w7 ⟨rfl, hb⟩; refine ⟨_, rfl, ?_⟩; have n0_ := Aside0.mk (blk_below (g := gb485) (by (with_reducible repeat (first | refine blk_drewN ?_ _ | refine blk_drew ?_ | refine blk_alloc ?_ _)); exact BK485.out) hb); have n1_ := Aside0.mk (below_step (by repeat (first | (with_reducible first | exact HB.out | apply bwA | apply pwN | apply bw1 | refine below_set ?_ GE485.out) | exact HB.out)) hb); clear BK485; clear HB; have BK485 := n0_; have HB := n1_; clear n0_ n1_; (try clear hb); (try clear hb2); (try clear hk); (try clear hi)))
  go_ret
  exact ⟨by first | rfl | (simp [errW_none, errW_some, i64_w]; done) | (simp [errW_none, errW_some] <;> rfl) | (simp [*, errW_none, errW_some] <;> rfl), by repeat (first | (with_reducible first | exact HB.out | apply bwA | apply pwN | apply bw1 | refine below_set ?_ GE485.out) | exact HB.out)⟩
 ·rw [if_neg c4] at H
  have c4b0 : decide (t486 < 0) = false := decide_eq_false c4
  clear c4
  replace H := Option.bind_eq_some_iff.mp H
  obtain ⟨⟨t487, t490⟩, A80, H⟩ := H
  (try dsimp only at H)
  have A8 := Aside0.mk A80
  clear A80
  replace H := Option.bind_eq_some_iff.mp H
  obtain ⟨⟨t493, t494, t495⟩, A90, H⟩ := H
  (try dsimp only at H)
  have A9 := Aside0.mk A90
  clear A90
  replace H := Option.bind_eq_some_iff.mp H
  obtain ⟨⟨t496, t499⟩, A100, H⟩ := H
  (try dsimp only at H)
  have A10 := Aside0.mk A100
  clear A100
  replace H := Option.bind_eq_some_iff.mp H
  obtain ⟨⟨t503, t504, t505⟩, A110, H⟩ := H
  (try dsimp only at H)
  have A11 := Aside0.mk A110
  clear A110
  have HC12 := Aside0.mk H
  clear H
  go_enter Try.func3, Try.ntmps3
  go_upto_region 8 with (first | ((with_reducible refine gate_dst (N := 2) rfl ?_); refine box_event ?hg (N := 2) ?hd (cs := #[.slice A0_0 l0_0.length c0_0, .slice A0_1 l0_1.length c0_1]) (t := 25) ?hr ?_; (case hd => rfl); (case hg => rfl); (case hr => first | (go_simp; done) | (go_simp; rfl)); intro gb485 hg w13 hbox hb; have n0_ := Aside0.mk (below_step (by repeat (first | (with_reducible first | exact HB.out | apply bwA | apply pwN | apply bw1) | exact HB.out)) hb); have n1_ := Aside0.mk (hbox); have n2_ := Aside0.mk ((by rw [hg]; exact (below_size (by repeat (first | (with_reducible first | exact HB.out | apply bwA | apply pwN | apply bw1) | exact HB.out))) : w.heap.size ≤ gb485)); have n3_ := Aside0.mk (n2_.out); clear HB; have HB := n0_; have BK485 := n1_; have GW485 := n2_; have GE485 := n3_; clear n0_ n1_ n2_ n3_; clear hb hbox hg; have hcz14_0 : w13.cell? ⟨gb485, 0, none⟩ = some (.slice A0_0 l0_0.length c0_0) := (blk_cell BK485.out 0).trans rfl; have hcz14_1 : w13.cell? ⟨gb485, 1, none⟩ = some (.slice A0_1 l0_1.length c0_1) := (blk_cell BK485.out 1).trans rfl; have hfz14_0 := blk_frozen BK485.out 0; have hfz14_1 := blk_frozen BK485.out 1) | ((with_reducible refine gate_callee (f := 7) rfl ?_); refine goesL_ (some 15) rfl rfl Try.func7 (by kernel_rfl) rfl #[.agg #[.slice A0_0 l0_0.length c0_0, .slice A0_1 l0_1.length c0_1], .int .i64 1048576] rfl (by (try simp only [List.map_toArray, List.map_cons, List.map_nil]); first | done | rfl | (simp only [List.length_drop, List.length_take]; rfl)) ?_; (with_reducible refine (laws_szSystem.calls _ _ l0_0 _ _ l0_1 1048576 t486 _ ?side1 ?side2 ?side3 ?side4 A3.out).mono ?_); (case side1 => repeat (first | exact (Kd.C_below HR0_0.out HB.out) | (with_reducible refine Kd.C_alloc ?_ _) | (with_reducible refine Kd.C_drewN ?_ _) | (with_reducible refine Kd.C_drew ?_))); (case side2 => exact HC0_0.out); (case side3 => repeat (first | exact (Kd.C_below HR0_1.out HB.out) | (with_reducible refine Kd.C_alloc ?_ _) | (with_reducible refine Kd.C_drewN ?_ _) | (with_reducible refine Kd.C_drew ?_))); (case side4 => exact HC0_1.out); rintro e w15 ⟨rfl, hb⟩; refine ⟨_, rfl, ?_⟩; have n0_ := Aside0.mk (blk_below (g := gb485) (by (with_reducible repeat (first | refine blk_drewN ?_ _ | refine blk_drew ?_ | refine blk_alloc ?_ _)); exact BK485.out) hb); have n1_ := Aside0.mk (below_step (by repeat (first | (with_reducible first | exact HB.out | apply bwA | apply pwN | apply bw1 | refine below_set ?_ GE485.out) | exact HB.out)) hb); clear BK485; clear HB; have BK485 := n0_; have HB := n1_; clear n0_ n1_; (try clear hb); (try clear hb2); (try clear hk); (try clear hi); have hcz16_0 : w15.cell? ⟨gb485, 0, none⟩ = some (.slice A0_0 l0_0.length c0_0) := (blk_cell BK485.out 0).trans rfl; have hcz16_1 : w15.cell? ⟨gb485, 1, none⟩ = some (.slice A0_1 l0_1.length c0_1) := (blk_cell BK485.out 1).trans rfl; have hfz16_0 := blk_frozen BK485.out 0; have hfz16_1 := blk_frozen BK485.out 1) | ((with_reducible refine gate_callee (f := 9) rfl ?_); refine goesL_ (some 20) rfl rfl Try.func9 (by kernel_rfl) rfl #[.agg #[.slice A0_0 l0_0.length c0_0, .slice A0_1 l0_1.length c0_1]] rfl (by (try simp only [List.map_toArray, List.map_cons, List.map_nil]); first | done | rfl | (simp only [List.length_drop, List.length_take]; rfl)) ?_; (with_reducible refine (laws_toSystem.calls k _ _ l0_0 _ _ l0_1 t487 t490 _ ?side1 ?side2 ?side3 ?side4 A8.out).mono ?_); (case side1 => repeat (first | exact (Kd.C_below HR0_0.out HB.out) | (with_reducible refine Kd.C_alloc ?_ _) | (with_reducible refine Kd.C_drewN ?_ _) | (with_reducible refine Kd.C_drew ?_))); (case side2 => exact HC0_0.out); (case side3 => repeat (first | exact (Kd.C_below HR0_1.out HB.out) | (with_reducible refine Kd.C_alloc ?_ _) | (with_reducible refine Kd.C_drewN ?_ _) | (with_reducible refine Kd.C_drew ?_))); (case side4 => exact HC0_1.out); rintro e w17 ⟨v488, v491, rfl, ho0, ho1, hb⟩; refine ⟨_, rfl, ?_⟩; have n0_ := Aside0.mk (Kd.R_lower ho0 (below_size (by repeat (first | (with_reducible first | exact HB.out | apply bwA | apply pwN | apply bw1 | refine below_set ?_ GE485.out) | exact HB.out)))); have n1_ := Aside0.mk (Kd.R_lower ho1 (below_size (by repeat (first | (with_reducible first | exact HB.out | apply bwA | apply pwN | apply bw1 | refine below_set ?_ GE485.out) | exact HB.out)))); have n2_ := Aside0.mk (blk_below (g := gb485) (by (with_reducible repeat (first | refine blk_drewN ?_ _ | refine blk_drew ?_ | refine blk_alloc ?_ _)); exact BK485.out) hb); have n3_ := Aside0.mk (below_step (by repeat (first | (with_reducible first | exact HB.out | apply bwA | apply pwN | apply bw1 | refine below_set ?_ GE485.out) | exact HB.out)) hb); clear BK485; clear HB; have HO489 := n0_; have HO492 := n1_; have BK485 := n2_; have HB := n3_; clear n0_ n1_ n2_ n3_; (try clear hb); (try clear hb2); (try clear hk); (try clear hi); (try clear ho0); (try clear ho1); obtain ⟨Ao18, co18, eo18⟩ := Kd.R_slice HO489.out; subst eo18; obtain ⟨Ao19, co19, eo19⟩ := Kd.R_slice HO492.out; subst eo19) | ((with_reducible refine gate_callee (f := 8) rfl ?_); refine goesL_ (some 22) rfl rfl Try.func8 (by kernel_rfl) rfl #[.agg #[.slice Ao18 t487.length co18, .slice Ao19 t490.length co19], .int .i64 a1] rfl (by (try simp only [List.map_toArray, List.map_cons, List.map_nil]); first | done | rfl | (simp only [List.length_drop, List.length_take]; rfl)) ?_; (with_reducible refine (spec_GreatestOf.calls k _ _ t487 _ _ t490 a1 t493 t494 t495 _ ?side1 ?side2 ?side3 ?side4 A9.out).mono ?_); (case side1 => repeat (first | exact (Kd.R_reads' HO489.out).2.2 | (with_reducible refine Kd.C_alloc ?_ _) | (with_reducible refine Kd.C_drewN ?_ _) | (with_reducible refine Kd.C_drew ?_))); (case side2 => exact (Kd.R_reads' HO489.out).2.1); (case side3 => repeat (first | exact (Kd.R_reads' HO492.out).2.2 | (with_reducible refine Kd.C_alloc ?_ _) | (with_reducible refine Kd.C_drewN ?_ _) | (with_reducible refine Kd.C_drew ?_))); (case side4 => exact (Kd.R_reads' HO492.out).2.1); rintro e w20 ⟨rfl, hb⟩; refine ⟨_, rfl, ?_⟩; have n0_ := Aside0.mk (Kd.R_below (by (with_reducible repeat (first | apply Kd.R_alloc | apply Kd.R_drewN | apply Kd.R_drew)); exact HO489.out) hb); have n1_ := Aside0.mk (Kd.R_below (by (with_reducible repeat (first | apply Kd.R_alloc | apply Kd.R_drewN | apply Kd.R_drew)); exact HO492.out) hb); have n2_ := Aside0.mk (blk_below (g := gb485) (by (with_reducible repeat (first | refine blk_drewN ?_ _ | refine blk_drew ?_ | refine blk_alloc ?_ _)); exact BK485.out) hb); have n3_ := Aside0.mk (below_step (by repeat (first | (with_reducible first | exact HB.out | apply bwA | apply pwN | apply bw1 | refine below_set ?_ GE485.out) | exact HB.out)) hb); clear HO489; clear HO492; clear BK485; clear HB; have HO489 := n0_; have HO492 := n1_; have BK485 := n2_; have HB := n3_; clear n0_ n1_ n2_ n3_; (try clear hb); (try clear hb2); (try clear hk); (try clear hi); have hcz21_0 : w20.cell? ⟨gb485, 0, none⟩ = some (.slice A0_0 l0_0.length c0_0) := (blk_cell BK485.out 0).trans rfl; have hcz21_1 : w20.cell? ⟨gb485, 1, none⟩ = some (.slice A0_1 l0_1.length c0_1) := (blk_cell BK485.out 1).trans rfl; have hfz21_0 := blk_frozen BK485.out 0; have hfz21_1 := blk_frozen BK485.out 1) | ((with_reducible refine gate_callee (f := 9) rfl ?_); refine goesL_ (some 27) rfl rfl Try.func9 (by kernel_rfl) rfl #[.agg #[.slice A0_0 l0_0.length c0_0, .slice A0_1 l0_1.length c0_1]] rfl (by (try simp only [List.map_toArray, List.map_cons, List.map_nil]); first | done | rfl | (simp only [List.length_drop, List.length_take]; rfl)) ?_; (with_reducible refine (laws_toSystem.calls k _ _ l0_0 _ _ l0_1 t496 t499 _ ?side1 ?side2 ?side3 ?side4 A10.out).mono ?_); (case side1 => repeat (first | exact (Kd.C_below HR0_0.out HB.out) | (with_reducible refine Kd.C_alloc ?_ _) | (with_reducible refine Kd.C_drewN ?_ _) | (with_reducible refine Kd.C_drew ?_))); (case side2 => exact HC0_0.out); (case side3 => repeat (first | exact (Kd.C_below HR0_1.out HB.out) | (with_reducible refine Kd.C_alloc ?_ _) | (with_reducible refine Kd.C_drewN ?_ _) | (with_reducible refine Kd.C_drew ?_))); (case side4 => exact HC0_1.out); rintro e w22 ⟨v497, v500, rfl, ho0, ho1, hb⟩; refine ⟨_, rfl, ?_⟩; have n0_ := Aside0.mk (Kd.R_elder' (by (with_reducible repeat (first | apply Kd.R_alloc | apply Kd.R_drewN | apply Kd.R_drew)); exact HO489.out) (Kd.R_base ho0) hb); have n1_ := Aside0.mk (Kd.R_elder' (by (with_reducible repeat (first | apply Kd.R_alloc | apply Kd.R_drewN | apply Kd.R_drew)); exact HO492.out) (Kd.R_base ho1) hb); have n2_ := Aside0.mk (Kd.R_lower (Kd.R_new' ho0 (Kd.R_lt (by (with_reducible repeat (first | apply Kd.R_alloc | apply Kd.R_drewN | apply Kd.R_drew)); exact HO489.out))) (below_size (by repeat (first | (with_reducible first | exact HB.out | apply bwA | apply pwN | apply bw1 | refine below_set ?_ GE485.out) | exact HB.out)))); have n3_ := Aside0.mk (Kd.R_lower (Kd.R_new' ho1 (Kd.R_lt (by (with_reducible repeat (first | apply Kd.R_alloc | apply Kd.R_drewN | apply Kd.R_drew)); exact HO492.out))) (below_size (by repeat (first | (with_reducible first | exact HB.out | apply bwA | apply pwN | apply bw1 | refine below_set ?_ GE485.out) | exact HB.out)))); have n4_ := Aside0.mk (blk_below (g := gb485) (by (with_reducible repeat (first | refine blk_drewN ?_ _ | refine blk_drew ?_ | refine blk_alloc ?_ _)); exact BK485.out) hb); have n5_ := Aside0.mk (below_step (by repeat (first | (with_reducible first | exact HB.out | apply bwA | apply pwN | apply bw1 | refine below_set ?_ GE485.out) | exact HB.out)) hb); clear HO489; clear HO492; clear BK485; clear HB; have HO489 := n0_; have HO492 := n1_; have HO498 := n2_; have HO501 := n3_; have BK485 := n4_; have HB := n5_; clear n0_ n1_ n2_ n3_ n4_ n5_; (try clear hb); (try clear hb2); (try clear hk); (try clear hi); (try clear ho0); (try clear ho1)) | ((with_reducible refine gate_dst (N := 9) rfl ?_); refine box_event ?hg (N := 9) ?hd (cs := #[.slice none 0 0, .slice none 0 0]) (t := 31) ?hr ?_; (case hd => rfl); (case hg => rfl); (case hr => first | (go_simp; done) | (go_simp; rfl)); intro gb502 hg w23 hbox hb; have n0_ := Aside0.mk (Kd.R_below (by (with_reducible repeat (first | apply Kd.R_alloc | apply Kd.R_drewN | apply Kd.R_drew)); exact HO489.out) hb); have n1_ := Aside0.mk (Kd.R_below (by (with_reducible repeat (first | apply Kd.R_alloc | apply Kd.R_drewN | apply Kd.R_drew)); exact HO492.out) hb); have n2_ := Aside0.mk (Kd.R_below (by (with_reducible repeat (first | apply Kd.R_alloc | apply Kd.R_drewN | apply Kd.R_drew)); exact HO498.out) hb); have n3_ := Aside0.mk (Kd.R_below (by (with_reducible repeat (first | apply Kd.R_alloc | apply Kd.R_drewN | apply Kd.R_drew)); exact HO501.out) hb); have n4_ := Aside0.mk (blk_below (g := gb485) (by (with_reducible repeat (first | refine blk_drewN ?_ _ | refine blk_drew ?_ | refine blk_alloc ?_ _)); exact BK485.out) hb); have n5_ := Aside0.mk (below_step (by repeat (first | (with_reducible first | exact HB.out | apply bwA | apply pwN | apply bw1 | refine below_set ?_ GE485.out) | exact HB.out)) hb); have n6_ := Aside0.mk (hbox); have n7_ := Aside0.mk ((by rw [hg]; exact (below_size (by repeat (first | (with_reducible first | exact HB.out | apply bwA | apply pwN | apply bw1 | refine below_set ?_ GE485.out) | exact HB.out))) : w.heap.size ≤ gb502)); have n8_ := Aside0.mk (n7_.out); have n9_ := Aside0.mk ((by rw [hg]; exact Nat.ne_of_lt (blk_lt (g := gb485) (by (with_reducible repeat (first | refine blk_drewN ?_ _ | refine blk_drew ?_ | refine blk_alloc ?_ _)); exact BK485.out)) : gb485 ≠ gb502)); have n10_ := Aside0.mk ((Ne.symm n9_.out)); clear HO489; clear HO492; clear HO498; clear HO501; clear BK485; clear HB; have HO489 := n0_; have HO492 := n1_; have HO498 := n2_; have HO501 := n3_; have BK485 := n4_; have HB := n5_; have BK502 := n6_; have GW502 := n7_; have GE502 := n8_; have NB485_502 := n9_; have NB502_485 := n10_; clear n0_ n1_ n2_ n3_ n4_ n5_ n6_ n7_ n8_ n9_ n10_; clear hb hbox hg; obtain ⟨Ao24, co24, eo24⟩ := Kd.R_slice HO498.out; subst eo24; have hnb25 := NB502_485.out; have hnc25 := NB485_502.out; have hcz26_0 : w23.cell? ⟨gb502, 0, none⟩ = some (.slice none 0 0) := (blk_cell BK502.out 0).trans rfl; have hcz26_1 : w23.cell? ⟨gb502, 1, none⟩ = some (.slice none 0 0) := (blk_cell BK502.out 1).trans rfl; have hfz26_0 := blk_frozen BK502.out 0; have hfz26_1 := blk_frozen BK502.out 1; obtain ⟨Ao27, co27, eo27⟩ := Kd.R_slice HO501.out; subst eo27) | ((with_reducible refine gate_callee (f := 10) rfl ?_); refine goesL_ (some 31) rfl rfl Try.func10 (by kernel_rfl) rfl #[.agg #[.slice Ao24 t496.length co24, .slice Ao27 t499.length co27], .int .i64 a1] rfl (by (try simp only [List.map_toArray, List.map_cons, List.map_nil]); first | done | rfl | (simp only [List.length_drop, List.length_take]; rfl)) ?_; (with_reducible refine (impl_GreatestOf.calls _ _ t496 _ _ t499 a1 t503 t504 t505 _ ?side1 ?side2 ?side3 ?side4 A11.out).mono ?_); (case side1 => refine (Kd.R_reads' (e := 102) (base := w.heap.size) (ok := fun k_ => (True ∧ some k_ ≠ (.slice Ao18 t487.length co18 : Value).ownBlock)) (n := t496.length) (c := co24) ?_).2.2; exact (by (with_reducible repeat (first | apply Kd.R_alloc | apply Kd.R_drewN | apply Kd.R_drew)); exact (Kd.R_mono (Kd.R_far (p := ⟨gb502, 1, none⟩) (Kd.R_far (p := ⟨gb502, 0, none⟩) (Kd.R_types HO498.out BK502.out (by decide)) (fun _ hk => hk.2) (.slice Ao24 t496.length co24)) (fun _ hk => hk.2) (.slice Ao27 t499.length co27)) (fun _ h_ => h_.1)))); (case side2 => exact (Kd.R_reads' HO498.out).2.1); (case side3 => refine (Kd.R_reads' (e := 104) (base := w.heap.size) (ok := fun k_ => (True ∧ some k_ ≠ (.slice Ao19 t490.length co19 : Value).ownBlock)) (n := t499.length) (c := co27) ?_).2.2; exact (by (with_reducible repeat (first | apply Kd.R_alloc | apply Kd.R_drewN | apply Kd.R_drew)); exact (Kd.R_mono (Kd.R_far (p := ⟨gb502, 1, none⟩) (Kd.R_far (p := ⟨gb502, 0, none⟩) (Kd.R_types HO501.out BK502.out (by decide)) (fun _ hk => hk.2) (.slice Ao24 t496.length co24)) (fun _ hk => hk.2) (.slice Ao27 t499.length co27)) (fun _ h_ => h_.1)))); (case side4 => exact (Kd.R_reads' HO501.out).2.1); rintro e w28 ⟨rfl, hb⟩; refine ⟨_, rfl, ?_⟩; have n0_ := Aside0.mk (Kd.R_below (by (with_reducible repeat (first | apply Kd.R_alloc | apply Kd.R_drewN | apply Kd.R_drew)); exact (Kd.R_mono (Kd.R_far (p := ⟨gb502, 1, none⟩) (Kd.R_far (p := ⟨gb502, 0, none⟩) (Kd.R_types HO489.out BK502.out (by decide)) (fun _ hk => hk.2) (.slice Ao24 t496.length co24)) (fun _ hk => hk.2) (.slice Ao27 t499.length co27)) (fun _ h_ => h_.1))) hb); have n1_ := Aside0.mk (Kd.R_below (by (with_reducible repeat (first | apply Kd.R_alloc | apply Kd.R_drewN | apply Kd.R_drew)); exact (Kd.R_mono (Kd.R_far (p := ⟨gb502, 1, none⟩) (Kd.R_far (p := ⟨gb502, 0, none⟩) (Kd.R_types HO492.out BK502.out (by decide)) (fun _ hk => hk.2) (.slice Ao24 t496.length co24)) (fun _ hk => hk.2) (.slice Ao27 t499.length co27)) (fun _ h_ => h_.1))) hb); have n2_ := Aside0.mk (Kd.R_below (by (with_reducible repeat (first | apply Kd.R_alloc | apply Kd.R_drewN | apply Kd.R_drew)); exact (Kd.R_mono (Kd.R_far (p := ⟨gb502, 1, none⟩) (Kd.R_far (p := ⟨gb502, 0, none⟩) (Kd.R_types HO498.out BK502.out (by decide)) (fun _ hk => hk.2) (.slice Ao24 t496.length co24)) (fun _ hk => hk.2) (.slice Ao27 t499.length co27)) (fun _ h_ => h_.1))) hb); have n3_ := Aside0.mk (Kd.R_below (by (with_reducible repeat (first | apply Kd.R_alloc | apply Kd.R_drewN | apply Kd.R_drew)); exact (Kd.R_mono (Kd.R_far (p := ⟨gb502, 1, none⟩) (Kd.R_far (p := ⟨gb502, 0, none⟩) (Kd.R_types HO501.out BK502.out (by decide)) (fun _ hk => hk.2) (.slice Ao24 t496.length co24)) (fun _ hk => hk.2) (.slice Ao27 t499.length co27)) (fun _ h_ => h_.1))) hb); have n4_ := Aside0.mk (blk_below (g := gb485) (blk_far (p := ⟨gb502, _, none⟩) (blk_far (p := ⟨gb502, _, none⟩) BK485.out NB485_502.out _) NB485_502.out _) hb); have n5_ := Aside0.mk (blk_below (g := gb502) (blk_put (cs := #[.slice Ao24 t496.length co24, .slice none 0 0]) (blk_put (cs := #[.slice none 0 0, .slice none 0 0]) BK502.out 0 _ rfl) 1 _ rfl) hb); have n6_ := Aside0.mk (below_step (by repeat (first | (with_reducible first | exact HB.out | apply bwA | apply pwN | apply bw1 | refine below_set ?_ GE485.out | refine below_set ?_ GE502.out) | exact HB.out)) hb); clear HO489; clear HO492; clear HO498; clear HO501; clear BK485; clear BK502; clear HB; have HO489 := n0_; have HO492 := n1_; have HO498 := n2_; have HO501 := n3_; have BK485 := n4_; have BK502 := n5_; have HB := n6_; clear n0_ n1_ n2_ n3_ n4_ n5_ n6_; (try clear hb); (try clear hb2); (try clear hk); (try clear hi)))
  (try simp only [Act.put, List.setIfInBounds_toArray, List.set_cons_zero, List.set_cons_succ])
  go_cut [47] (fun v47 wc => ∃ (kq : Nat) (x47_11 : Bool), v47 = .bool x47_11 ∧ Aside0 (laws_FnExactGreatestOf.j0 kq x47_11 l0_0 l0_1 t496 t499 = some r) ∧ Aside0 (kq ≤ k) ∧ Aside0 (Kd.R k102 102 wc w.heap.size (fun _ => True) (.slice Ao24 t496.length co24) t496) ∧ Aside0 (Kd.R k104 104 wc w.heap.size (fun _ => True) (.slice Ao27 t499.length co27) t499) ∧ Aside0 (wc.heap[gb485]? = some (.cells #[(.slice A0_0 l0_0.length c0_0), (.slice A0_1 l0_1.length c0_1)] 25 (0, 0))) ∧ Aside0 (wc.heap[gb502]? = some (.cells #[(.slice Ao24 t496.length co24), (.slice Ao27 t499.length co27)] 31 (0, 0))) ∧ Aside0 (Below w.heap.size w wc))
  case first =>
   have H := HC12.out
   clear HC12
   by_cases c29 : t503 = t493
   ·rw [if_pos c29] at H
    have c29b0 : (t503 == t493) = true := beq_iff_eq.mpr c29
    have c29b1 : (t503 != t493) = false := bne_eq_false_iff_eq.mpr c29
    clear c29
    (first | rw [c29b0] | (simp only [i64_w, i32_w]; rw [c29b0]) | skip)
    by_cases c30 : t504.toList = t494.toList
    ·rw [if_pos c30] at H
     have c30b0 : (t504.toList == t494.toList) = true := beq_iff_eq.mpr c30
     have c30b1 : (t504.toList != t494.toList) = false := bne_eq_false_iff_eq.mpr c30
     clear c30
     have H' := Aside0.mk H
     clear H
     go_wp2
     go_meet
     case rel => exact ⟨_, ((t505 != t495)), (by first | rfl | (simp; done) | (simp [*]; done)), H', ⟨by first | omega | exact Nat.le_refl _⟩, ⟨by (with_reducible repeat (first | apply Kd.R_alloc | apply Kd.R_drewN | apply Kd.R_drew)); exact Kd.R_mono HO498.out (fun _ hk => trivial)⟩, ⟨by (with_reducible repeat (first | apply Kd.R_alloc | apply Kd.R_drewN | apply Kd.R_drew)); exact Kd.R_mono HO501.out (fun _ hk => trivial)⟩, ⟨by (with_reducible repeat (first | refine blk_drewN ?_ _ | refine blk_drew ?_ | refine blk_alloc ?_ _)); exact BK485.out⟩, ⟨by (with_reducible repeat (first | refine blk_drewN ?_ _ | refine blk_drew ?_ | refine blk_alloc ?_ _)); exact BK502.out⟩, ⟨by repeat (first | (with_reducible first | exact HB.out | apply bwA | apply pwN | apply bw1 | refine below_set ?_ GE485.out | refine below_set ?_ GE502.out) | exact HB.out)⟩⟩
    ·rw [if_neg c30] at H
     have c30b0 : (t504.toList == t494.toList) = false := beq_eq_false_iff_ne.mpr c30
     have c30b1 : (t504.toList != t494.toList) = true := bne_iff_ne.mpr c30
     have H' := Aside0.mk H
     clear H
     go_wp2
     go_meet
     case rel => exact ⟨_, (true), (by first | rfl | (simp; done) | (simp [*]; done)), H', ⟨by first | omega | exact Nat.le_refl _⟩, ⟨by (with_reducible repeat (first | apply Kd.R_alloc | apply Kd.R_drewN | apply Kd.R_drew)); exact Kd.R_mono HO498.out (fun _ hk => trivial)⟩, ⟨by (with_reducible repeat (first | apply Kd.R_alloc | apply Kd.R_drewN | apply Kd.R_drew)); exact Kd.R_mono HO501.out (fun _ hk => trivial)⟩, ⟨by (with_reducible repeat (first | refine blk_drewN ?_ _ | refine blk_drew ?_ | refine blk_alloc ?_ _)); exact BK485.out⟩, ⟨by (with_reducible repeat (first | refine blk_drewN ?_ _ | refine blk_drew ?_ | refine blk_alloc ?_ _)); exact BK502.out⟩, ⟨by repeat (first | (with_reducible first | exact HB.out | apply bwA | apply pwN | apply bw1 | refine below_set ?_ GE485.out | refine below_set ?_ GE502.out) | exact HB.out)⟩⟩
   ·rw [if_neg c29] at H
    have c29b0 : (t503 == t493) = false := beq_eq_false_iff_ne.mpr c29
    have c29b1 : (t503 != t493) = true := bne_iff_ne.mpr c29
    (first | rw [c29b0] | (simp only [i64_w, i32_w]; rw [c29b0]) | skip)
    have H' := Aside0.mk H
    clear H
    go_wp2
    go_meet
    case rel => exact ⟨_, (true), (by first | rfl | (simp; done) | (simp [*]; done)), H', ⟨by first | omega | exact Nat.le_refl _⟩, ⟨by (with_reducible repeat (first | apply Kd.R_alloc | apply Kd.R_drewN | apply Kd.R_drew)); exact Kd.R_mono HO498.out (fun _ hk => trivial)⟩, ⟨by (with_reducible repeat (first | apply Kd.R_alloc | apply Kd.R_drewN | apply Kd.R_drew)); exact Kd.R_mono HO501.out (fun _ hk => trivial)⟩, ⟨by (with_reducible repeat (first | refine blk_drewN ?_ _ | refine blk_drew ?_ | refine blk_alloc ?_ _)); exact BK485.out⟩, ⟨by (with_reducible repeat (first | refine blk_drewN ?_ _ | refine blk_drew ?_ | refine blk_alloc ?_ _)); exact BK502.out⟩, ⟨by repeat (first | (with_reducible first | exact HB.out | apply bwA | apply pwN | apply bw1 | refine below_set ?_ GE485.out | refine below_set ?_ GE502.out) | exact HB.out)⟩⟩
  case rest =>
   clear HC12
   try clear c1
   try clear c2
   try clear p2
   try clear c3
   try clear c4
   try clear c4b0
   try clear c7
   try clear c8
   try clear c9
   try clear c10
   try clear c25
   try clear c29
   try clear c29b0
   try clear c29b1
   try clear c30
   try clear c30b0
   try clear c30b1
   try clear hcz14_0
   try clear hcz14_1
   try clear hcz16_0
   try clear hcz16_1
   try clear hcz21_0
   try clear hcz21_1
   try clear hcz26_0
   try clear hcz26_1
   try clear hcz6_0
   try clear hcz6_1
   try clear hfz14_0
   try clear hfz14_1
   try clear hfz16_0
   try clear hfz16_1
   try clear hfz21_0
   try clear hfz21_1
   try clear hfz26_0
   try clear hfz26_1
   try clear hfz6_0
   try clear hfz6_1
   obtain ⟨kq, x47_11, rfl, HA, HJ11, HO_503000, HO_503001, BK485, BK502, HB⟩ := hcut
   cases kq with
   | zero => exact absurd HA.out (by simp [laws_FnExactGreatestOf.j0])
   | succ kj11 =>
    have H := HA.out
    clear HA
    simp only [laws_FnExactGreatestOf.j0] at H
    by_cases c31 : x47_11 = true
    ·subst c31
     rw [if_pos rfl] at H
     have H1 := H
     clear H
     have H := H1
     clear H1
     obtain rfl := Option.some.inj H
     go_wp2
     go_ret
     exact ⟨by first | rfl | (simp [errW_none, errW_some, i64_w]; done) | (simp [errW_none, errW_some] <;> rfl) | (simp [*, errW_none, errW_some] <;> rfl), by repeat (first | (with_reducible first | exact HB.out | apply bwA | apply pwN | apply bw1 | refine below_set ?_ GE485.out | refine below_set ?_ GE502.out) | exact HB.out)⟩
    ·replace c31 := Bool.eq_false_iff.mpr c31
     subst c31
     rw [if_neg (show ¬ (false = true) by decide)] at H
     have H1 := H
     clear H
     have H := H1
     clear H1
     replace H := Option.bind_eq_some_iff.mp H
     obtain ⟨⟨t506, t509⟩, A320, H⟩ := H
     (try dsimp only at H)
     have A32 := Aside0.mk A320
     clear A320
     replace H := Option.bind_eq_some_iff.mp H
     obtain ⟨t512, A330, H⟩ := H
     (try dsimp only at H)
     have A33 := Aside0.mk A330
     clear A330
     by_cases c34 : t512 = true
     ·subst c34
      rw [if_pos rfl] at H
      have H1 := H
      clear H
      have H := H1
      clear H1
      obtain rfl := Option.some.inj H
      try go_wp2
      have n0_ := Aside0.mk (Kd.R_drew HO_503000.out)
      have n1_ := Aside0.mk (Kd.R_drew HO_503001.out)
      have n2_ := Aside0.mk (blk_drew BK485.out)
      have n3_ := Aside0.mk (blk_drew BK502.out)
      have n4_ := Aside0.mk (bw1 HB.out)
      clear HO_503000
      clear HO_503001
      clear BK485
      clear BK502
      clear HB
      have HO_503000 := n0_
      have HO_503001 := n1_
      have BK485 := n2_
      have BK502 := n3_
      have HB := n4_
      clear n0_ n1_ n2_ n3_ n4_
      refine start_ (n := 5) (S := fun w' => w'.cell? ⟨gb502, 0, none⟩ = some (.slice Ao24 t496.length co24) ∧ w'.cell? ⟨gb502, 1, none⟩ = some (.slice Ao27 t499.length co27) ∧ w'.cell? ⟨gb485, 0, none⟩ = some (.slice A0_0 l0_0.length c0_0) ∧ w'.cell? ⟨gb485, 1, none⟩ = some (.slice A0_1 l0_1.length c0_1)) (ds := []) #[false, false, false, false, false] (by kernel_rfl) rfl rfl ⟨(blk_cell BK502.out 0).trans rfl, (blk_cell BK502.out 1).trans rfl, (blk_cell BK485.out 0).trans rfl, (blk_cell BK485.out 1).trans rfl⟩ (fun hHeld => ?_)
      generalize wc.drew = w35 at HO_503000 HO_503001 BK485 BK502 HB hHeld ⊢
      refine take_ (i := 0) (N := some 48) (v := ?_) (a' := ?_) #[true, false, false, false, false] rfl rfl (by kernel_rfl) (fun _ _ _ h => h) (Or.inl ⟨by rfl, ?_⟩) hHeld ?_ ?_
      rotate_left
      ·rintro w' ⟨s0, s1, s2, s3⟩
       go_simp
       with_reducible rfl
      rotate_left
      ·simp only [Act.put, List.setIfInBounds_toArray, List.set_cons_zero, List.set_cons_succ, i64_w, i32_w, u8_w_]
       rfl
      refine take_ (i := 1) (N := some 49) (v := ?_) (a' := ?_) #[true, true, false, false, false] rfl rfl (by kernel_rfl) (fun _ _ _ h => h) (Or.inl ⟨by rfl, ?_⟩) hHeld ?_ ?_
      rotate_left
      ·rintro w' ⟨s0, s1, s2, s3⟩
       go_simp
       with_reducible rfl
      rotate_left
      ·simp only [Act.put, List.setIfInBounds_toArray, List.set_cons_zero, List.set_cons_succ, i64_w, i32_w, u8_w_]
       rfl
      refine one_ (i := 2) (N := some 50) #[true, true, true, false, false] rfl rfl (by kernel_rfl) (by decide) (fun K hK => ?_)
      refine goes_ Try.func9 (by kernel_rfl) rfl #[.agg #[.slice A0_0 l0_0.length c0_0, .slice A0_1 l0_1.length c0_1]] (by rfl) rfl rfl (by (try simp only [List.map_toArray, List.map_cons, List.map_nil]); first | done | rfl | (simp only [List.length_drop, List.length_take]; rfl)) ?_
      with_reducible refine (laws_toSystem.calls kj11 _ _ l0_0 _ _ l0_1 t506 t509 _ ?side1 ?side2 ?side3 ?side4 A32.out).mono ?_
      (case side1 => repeat (first | exact (Kd.C_below HR0_0.out HB.out) | (with_reducible refine Kd.C_alloc ?_ _) | (with_reducible refine Kd.C_drewN ?_ _) | (with_reducible refine Kd.C_drew ?_)))
      (case side2 => exact HC0_0.out)
      (case side3 => repeat (first | exact (Kd.C_below HR0_1.out HB.out) | (with_reducible refine Kd.C_alloc ?_ _) | (with_reducible refine Kd.C_drewN ?_ _) | (with_reducible refine Kd.C_drew ?_)))
      (case side4 => exact HC0_1.out)
      rintro e w36 ⟨v507, v510, rfl, ho0, ho1, hb⟩
      refine ⟨_, rfl, ?_⟩
      have n0_ := Aside0.mk (Kd.R_elder' (by (with_reducible repeat (first | apply Kd.R_alloc | apply Kd.R_drewN | apply Kd.R_drew)); exact HO_503000.out) (Kd.R_base ho0) hb)
      have n1_ := Aside0.mk (Kd.R_elder' (by (with_reducible repeat (first | apply Kd.R_alloc | apply Kd.R_drewN | apply Kd.R_drew)); exact HO_503001.out) (Kd.R_base ho1) hb)
      have n2_ := Aside0.mk (Kd.R_lower (Kd.R_new' ho0 (Kd.R_lt (by (with_reducible repeat (first | apply Kd.R_alloc | apply Kd.R_drewN | apply Kd.R_drew)); exact HO_503000.out))) (below_size (by repeat (first | (with_reducible first | exact HB.out | apply bwA | apply pwN | apply bw1 | refine below_set ?_ GE485.out | refine below_set ?_ GE502.out) | exact HB.out))))
      have n3_ := Aside0.mk (Kd.R_lower (Kd.R_new' ho1 (Kd.R_lt (by (with_reducible repeat (first | apply Kd.R_alloc | apply Kd.R_drewN | apply Kd.R_drew)); exact HO_503001.out))) (below_size (by repeat (first | (with_reducible first | exact HB.out | apply bwA | apply pwN | apply bw1 | refine below_set ?_ GE485.out | refine below_set ?_ GE502.out) | exact HB.out))))
      have n4_ := Aside0.mk (blk_below (g := gb485) (by (with_reducible repeat (first | refine blk_drewN ?_ _ | refine blk_drew ?_ | refine blk_alloc ?_ _)); exact BK485.out) hb)
      have n5_ := Aside0.mk (blk_below (g := gb502) (by (with_reducible repeat (first | refine blk_drewN ?_ _ | refine blk_drew ?_ | refine blk_alloc ?_ _)); exact BK502.out) hb)
      have n6_ := Aside0.mk (below_step (by repeat (first | (with_reducible first | exact HB.out | apply bwA | apply pwN | apply bw1 | refine below_set ?_ GE485.out | refine below_set ?_ GE502.out) | exact HB.out)) hb)
      clear HO_503000
      clear HO_503001
      clear BK485
      clear BK502
      clear HB
      have HO_503000 := n0_
      have HO_503001 := n1_
      have HO508 := n2_
      have HO511 := n3_
      have BK485 := n4_
      have BK502 := n5_
      have HB := n6_
      clear n0_ n1_ n2_ n3_ n4_ n5_ n6_
      (try clear hb)
      (try clear hb2)
      (try clear hk)
      (try clear hi)
      (try clear ho0)
      (try clear ho1)
      obtain ⟨Ao37, co37, eo37⟩ := Kd.R_slice HO508.out
      (first | subst eo37 | (injection eo37 with f1_ f2_ f3_; have f4_ := f1_.symm; have f5_ := f3_.symm; clear f1_ f2_ f3_; subst f4_; subst f5_))
      obtain ⟨Ao38, co38, eo38⟩ := Kd.R_slice HO511.out
      (first | subst eo38 | (injection eo38 with f1_ f2_ f3_; have f4_ := f1_.symm; have f5_ := f3_.symm; clear f1_ f2_ f3_; subst f4_; subst f5_))
      refine hK.out _ _ ⟨(blk_cell BK502.out 0).trans rfl, (blk_cell BK502.out 1).trans rfl, (blk_cell BK485.out 0).trans rfl, (blk_cell BK485.out 1).trans rfl⟩ (fun hHeld => ?_)
      clear hK K
      refine nm_ (some 50) ?_
      refine one_ (i := 3) (N := some 51) #[true, true, true, true, false] rfl rfl (by kernel_rfl) (by decide) (fun K hK => ?_)
      refine goes_ Try.func11 (by kernel_rfl) rfl #[.agg #[.slice Ao24 t496.length co24, .slice Ao27 t499.length co27], .agg #[.slice Ao37 t506.length co37, .slice Ao38 t509.length co38]] (by rfl) rfl rfl (by (try simp only [List.map_toArray, List.map_cons, List.map_nil]); first | done | rfl | (simp only [List.length_drop, List.length_take]; rfl)) ?_
      with_reducible refine (laws_eqSystem.calls kj11 _ _ t496 _ _ t499 _ _ t506 _ _ t509 true _ ?side1 ?side2 ?side3 ?side4 ?side5 ?side6 ?side7 ?side8 A33.out).mono ?_
      (case side1 => repeat (first | exact (Kd.R_reads' HO_503000.out).2.2 | (with_reducible refine Kd.C_alloc ?_ _) | (with_reducible refine Kd.C_drewN ?_ _) | (with_reducible refine Kd.C_drew ?_)))
      (case side2 => exact (Kd.R_reads' HO_503000.out).2.1)
      (case side3 => repeat (first | exact (Kd.R_reads' HO_503001.out).2.2 | (with_reducible refine Kd.C_alloc ?_ _) | (with_reducible refine Kd.C_drewN ?_ _) | (with_reducible refine Kd.C_drew ?_)))
      (case side4 => exact (Kd.R_reads' HO_503001.out).2.1)
      (case side5 => repeat (first | exact (Kd.R_reads' HO508.out).2.2 | (with_reducible refine Kd.C_alloc ?_ _) | (with_reducible refine Kd.C_drewN ?_ _) | (with_reducible refine Kd.C_drew ?_)))
      (case side6 => exact (Kd.R_reads' HO508.out).2.1)
      (case side7 => repeat (first | exact (Kd.R_reads' HO511.out).2.2 | (with_reducible refine Kd.C_alloc ?_ _) | (with_reducible refine Kd.C_drewN ?_ _) | (with_reducible refine Kd.C_drew ?_)))
      (case side8 => exact (Kd.R_reads' HO511.out).2.1)
      rintro e w39 ⟨rfl, hb⟩
      refine ⟨_, rfl, ?_⟩
      have n0_ := Aside0.mk (Kd.R_below (by (with_reducible repeat (first | apply Kd.R_alloc | apply Kd.R_drewN | apply Kd.R_drew)); exact HO_503000.out) hb)
      have n1_ := Aside0.mk (Kd.R_below (by (with_reducible repeat (first | apply Kd.R_alloc | apply Kd.R_drewN | apply Kd.R_drew)); exact HO_503001.out) hb)
      have n2_ := Aside0.mk (Kd.R_below (by (with_reducible repeat (first | apply Kd.R_alloc | apply Kd.R_drewN | apply Kd.R_drew)); exact HO508.out) hb)
      have n3_ := Aside0.mk (Kd.R_below (by (with_reducible repeat (first | apply Kd.R_alloc | apply Kd.R_drewN | apply Kd.R_drew)); exact HO511.out) hb)
      have n4_ := Aside0.mk (blk_below (g := gb485) (by (with_reducible repeat (first | refine blk_drewN ?_ _ | refine blk_drew ?_ | refine blk_alloc ?_ _)); exact BK485.out) hb)
      have n5_ := Aside0.mk (blk_below (g := gb502) (by (with_reducible repeat (first | refine blk_drewN ?_ _ | refine blk_drew ?_ | refine blk_alloc ?_ _)); exact BK502.out) hb)
      have n6_ := Aside0.mk (below_step (by repeat (first | (with_reducible first | exact HB.out | apply bwA | apply pwN | apply bw1 | refine below_set ?_ GE485.out | refine below_set ?_ GE502.out) | exact HB.out)) hb)
      clear HO_503000
      clear HO_503001
      clear HO508
      clear HO511
      clear BK485
      clear BK502
      clear HB
      have HO_503000 := n0_
      have HO_503001 := n1_
      have HO508 := n2_
      have HO511 := n3_
      have BK485 := n4_
      have BK502 := n5_
      have HB := n6_
      clear n0_ n1_ n2_ n3_ n4_ n5_ n6_
      (try clear hb)
      (try clear hb2)
      (try clear hk)
      (try clear hi)
      refine hK.out _ _ ⟨(blk_cell BK502.out 0).trans rfl, (blk_cell BK502.out 1).trans rfl, (blk_cell BK485.out 0).trans rfl, (blk_cell BK485.out 1).trans rfl⟩ (fun hHeld => ?_)
      clear hK K
      refine nm_ (some 51) ?_
      refine pure_ (i := 4) (N := some 52) (v := ?_) (a' := ?_) #[true, true, true, true, true] rfl rfl (by kernel_rfl) (fun _ _ _ h => h) (Or.inl ⟨by rfl, ?_⟩) ?_ ?_
      rotate_left
      ·intro w'
       go_simp
       with_reducible rfl
      rotate_left
      ·simp only [Act.put, List.setIfInBounds_toArray, List.set_cons_zero, List.set_cons_succ, i64_w, i32_w, u8_w_]
       rfl
      refine done_ (by kernel_rfl) ?_
      try go_wp2
      go_ret
      exact ⟨by first | rfl | (simp [errW_none, errW_some, i64_w]; done) | (simp [errW_none, errW_some] <;> rfl) | (simp [*, errW_none, errW_some] <;> rfl), by repeat (first | (with_reducible first | exact HB.out | apply bwA | apply pwN | apply bw1 | refine below_set ?_ GE485.out | refine below_set ?_ GE502.out) | exact HB.out)⟩
     ·replace c34 := Bool.eq_false_iff.mpr c34
      subst c34
      rw [if_neg (show ¬ (false = true) by decide)] at H
      have H1 := H
      clear H
      have H := H1
      clear H1
      obtain rfl := Option.some.inj H
      try go_wp2
      have n0_ := Aside0.mk (Kd.R_drew HO_503000.out)
      have n1_ := Aside0.mk (Kd.R_drew HO_503001.out)
      have n2_ := Aside0.mk (blk_drew BK485.out)
      have n3_ := Aside0.mk (blk_drew BK502.out)
      have n4_ := Aside0.mk (bw1 HB.out)
      clear HO_503000
      clear HO_503001
      clear BK485
      clear BK502
      clear HB
      have HO_503000 := n0_
      have HO_503001 := n1_
      have BK485 := n2_
      have BK502 := n3_
      have HB := n4_
      clear n0_ n1_ n2_ n3_ n4_
      refine start_ (n := 5) (S := fun w' => w'.cell? ⟨gb502, 0, none⟩ = some (.slice Ao24 t496.length co24) ∧ w'.cell? ⟨gb502, 1, none⟩ = some (.slice Ao27 t499.length co27) ∧ w'.cell? ⟨gb485, 0, none⟩ = some (.slice A0_0 l0_0.length c0_0) ∧ w'.cell? ⟨gb485, 1, none⟩ = some (.slice A0_1 l0_1.length c0_1)) (ds := []) #[false, false, false, false, false] (by kernel_rfl) rfl rfl ⟨(blk_cell BK502.out 0).trans rfl, (blk_cell BK502.out 1).trans rfl, (blk_cell BK485.out 0).trans rfl, (blk_cell BK485.out 1).trans rfl⟩ (fun hHeld => ?_)
      generalize wc.drew = w40 at HO_503000 HO_503001 BK485 BK502 HB hHeld ⊢
      refine take_ (i := 0) (N := some 48) (v := ?_) (a' := ?_) #[true, false, false, false, false] rfl rfl (by kernel_rfl) (fun _ _ _ h => h) (Or.inl ⟨by rfl, ?_⟩) hHeld ?_ ?_
      rotate_left
      ·rintro w' ⟨s0, s1, s2, s3⟩
       go_simp
       with_reducible rfl
      rotate_left
      ·simp only [Act.put, List.setIfInBounds_toArray, List.set_cons_zero, List.set_cons_succ, i64_w, i32_w, u8_w_]
       rfl
      refine take_ (i := 1) (N := some 49) (v := ?_) (a' := ?_) #[true, true, false, false, false] rfl rfl (by kernel_rfl) (fun _ _ _ h => h) (Or.inl ⟨by rfl, ?_⟩) hHeld ?_ ?_
      rotate_left
      ·rintro w' ⟨s0, s1, s2, s3⟩
       go_simp
       with_reducible rfl
      rotate_left
      ·simp only [Act.put, List.setIfInBounds_toArray, List.set_cons_zero, List.set_cons_succ, i64_w, i32_w, u8_w_]
       rfl
      refine one_ (i := 2) (N := some 50) #[true, true, true, false, false] rfl rfl (by kernel_rfl) (by decide) (fun K hK => ?_)
      refine goes_ Try.func9 (by kernel_rfl) rfl #[.agg #[.slice A0_0 l0_0.length c0_0, .slice A0_1 l0_1.length c0_1]] (by rfl) rfl rfl (by (try simp only [List.map_toArray, List.map_cons, List.map_nil]); first | done | rfl | (simp only [List.length_drop, List.length_take]; rfl)) ?_
      with_reducible refine (laws_toSystem.calls kj11 _ _ l0_0 _ _ l0_1 t506 t509 _ ?side1 ?side2 ?side3 ?side4 A32.out).mono ?_
      (case side1 => repeat (first | exact (Kd.C_below HR0_0.out HB.out) | (with_reducible refine Kd.C_alloc ?_ _) | (with_reducible refine Kd.C_drewN ?_ _) | (with_reducible refine Kd.C_drew ?_)))
      (case side2 => exact HC0_0.out)
      (case side3 => repeat (first | exact (Kd.C_below HR0_1.out HB.out) | (with_reducible refine Kd.C_alloc ?_ _) | (with_reducible refine Kd.C_drewN ?_ _) | (with_reducible refine Kd.C_drew ?_)))
      (case side4 => exact HC0_1.out)
      rintro e w41 ⟨v507, v510, rfl, ho0, ho1, hb⟩
      refine ⟨_, rfl, ?_⟩
      have n0_ := Aside0.mk (Kd.R_elder' (by (with_reducible repeat (first | apply Kd.R_alloc | apply Kd.R_drewN | apply Kd.R_drew)); exact HO_503000.out) (Kd.R_base ho0) hb)
      have n1_ := Aside0.mk (Kd.R_elder' (by (with_reducible repeat (first | apply Kd.R_alloc | apply Kd.R_drewN | apply Kd.R_drew)); exact HO_503001.out) (Kd.R_base ho1) hb)
      have n2_ := Aside0.mk (Kd.R_lower (Kd.R_new' ho0 (Kd.R_lt (by (with_reducible repeat (first | apply Kd.R_alloc | apply Kd.R_drewN | apply Kd.R_drew)); exact HO_503000.out))) (below_size (by repeat (first | (with_reducible first | exact HB.out | apply bwA | apply pwN | apply bw1 | refine below_set ?_ GE485.out | refine below_set ?_ GE502.out) | exact HB.out))))
      have n3_ := Aside0.mk (Kd.R_lower (Kd.R_new' ho1 (Kd.R_lt (by (with_reducible repeat (first | apply Kd.R_alloc | apply Kd.R_drewN | apply Kd.R_drew)); exact HO_503001.out))) (below_size (by repeat (first | (with_reducible first | exact HB.out | apply bwA | apply pwN | apply bw1 | refine below_set ?_ GE485.out | refine below_set ?_ GE502.out) | exact HB.out))))
      have n4_ := Aside0.mk (blk_below (g := gb485) (by (with_reducible repeat (first | refine blk_drewN ?_ _ | refine blk_drew ?_ | refine blk_alloc ?_ _)); exact BK485.out) hb)
      have n5_ := Aside0.mk (blk_below (g := gb502) (by (with_reducible repeat (first | refine blk_drewN ?_ _ | refine blk_drew ?_ | refine blk_alloc ?_ _)); exact BK502.out) hb)
      have n6_ := Aside0.mk (below_step (by repeat (first | (with_reducible first | exact HB.out | apply bwA | apply pwN | apply bw1 | refine below_set ?_ GE485.out | refine below_set ?_ GE502.out) | exact HB.out)) hb)
      clear HO_503000
      clear HO_503001
      clear BK485
      clear BK502
      clear HB
      have HO_503000 := n0_
      have HO_503001 := n1_
      have HO508 := n2_
      have HO511 := n3_
      have BK485 := n4_
      have BK502 := n5_
      have HB := n6_
      clear n0_ n1_ n2_ n3_ n4_ n5_ n6_
      (try clear hb)
      (try clear hb2)
      (try clear hk)
      (try clear hi)
      (try clear ho0)
      (try clear ho1)
      obtain ⟨Ao42, co42, eo42⟩ := Kd.R_slice HO508.out
      (first | subst eo42 | (injection eo42 with f1_ f2_ f3_; have f4_ := f1_.symm; have f5_ := f3_.symm; clear f1_ f2_ f3_; subst f4_; subst f5_))
      obtain ⟨Ao43, co43, eo43⟩ := Kd.R_slice HO511.out
      (first | subst eo43 | (injection eo43 with f1_ f2_ f3_; have f4_ := f1_.symm; have f5_ := f3_.symm; clear f1_ f2_ f3_; subst f4_; subst f5_))
      refine hK.out _ _ ⟨(blk_cell BK502.out 0).trans rfl, (blk_cell BK502.out 1).trans rfl, (blk_cell BK485.out 0).trans rfl, (blk_cell BK485.out 1).trans rfl⟩ (fun hHeld => ?_)
      clear hK K
      refine nm_ (some 50) ?_
      refine one_ (i := 3) (N := some 51) #[true, true, true, true, false] rfl rfl (by kernel_rfl) (by decide) (fun K hK => ?_)
      refine goes_ Try.func11 (by kernel_rfl) rfl #[.agg #[.slice Ao24 t496.length co24, .slice Ao27 t499.length co27], .agg #[.slice Ao42 t506.length co42, .slice Ao43 t509.length co43]] (by rfl) rfl rfl (by (try simp only [List.map_toArray, List.map_cons, List.map_nil]); first | done | rfl | (simp only [List.length_drop, List.length_take]; rfl)) ?_
      with_reducible refine (laws_eqSystem.calls kj11 _ _ t496 _ _ t499 _ _ t506 _ _ t509 false _ ?side1 ?side2 ?side3 ?side4 ?side5 ?side6 ?side7 ?side8 A33.out).mono ?_
      (case side1 => repeat (first | exact (Kd.R_reads' HO_503000.out).2.2 | (with_reducible refine Kd.C_alloc ?_ _) | (with_reducible refine Kd.C_drewN ?_ _) | (with_reducible refine Kd.C_drew ?_)))
      (case side2 => exact (Kd.R_reads' HO_503000.out).2.1)
      (case side3 => repeat (first | exact (Kd.R_reads' HO_503001.out).2.2 | (with_reducible refine Kd.C_alloc ?_ _) | (with_reducible refine Kd.C_drewN ?_ _) | (with_reducible refine Kd.C_drew ?_)))
      (case side4 => exact (Kd.R_reads' HO_503001.out).2.1)
      (case side5 => repeat (first | exact (Kd.R_reads' HO508.out).2.2 | (with_reducible refine Kd.C_alloc ?_ _) | (with_reducible refine Kd.C_drewN ?_ _) | (with_reducible refine Kd.C_drew ?_)))
      (case side6 => exact (Kd.R_reads' HO508.out).2.1)
      (case side7 => repeat (first | exact (Kd.R_reads' HO511.out).2.2 | (with_reducible refine Kd.C_alloc ?_ _) | (with_reducible refine Kd.C_drewN ?_ _) | (with_reducible refine Kd.C_drew ?_)))
      (case side8 => exact (Kd.R_reads' HO511.out).2.1)
      rintro e w44 ⟨rfl, hb⟩
      refine ⟨_, rfl, ?_⟩
      have n0_ := Aside0.mk (Kd.R_below (by (with_reducible repeat (first | apply Kd.R_alloc | apply Kd.R_drewN | apply Kd.R_drew)); exact HO_503000.out) hb)
      have n1_ := Aside0.mk (Kd.R_below (by (with_reducible repeat (first | apply Kd.R_alloc | apply Kd.R_drewN | apply Kd.R_drew)); exact HO_503001.out) hb)
      have n2_ := Aside0.mk (Kd.R_below (by (with_reducible repeat (first | apply Kd.R_alloc | apply Kd.R_drewN | apply Kd.R_drew)); exact HO508.out) hb)
      have n3_ := Aside0.mk (Kd.R_below (by (with_reducible repeat (first | apply Kd.R_alloc | apply Kd.R_drewN | apply Kd.R_drew)); exact HO511.out) hb)
      have n4_ := Aside0.mk (blk_below (g := gb485) (by (with_reducible repeat (first | refine blk_drewN ?_ _ | refine blk_drew ?_ | refine blk_alloc ?_ _)); exact BK485.out) hb)
      have n5_ := Aside0.mk (blk_below (g := gb502) (by (with_reducible repeat (first | refine blk_drewN ?_ _ | refine blk_drew ?_ | refine blk_alloc ?_ _)); exact BK502.out) hb)
      have n6_ := Aside0.mk (below_step (by repeat (first | (with_reducible first | exact HB.out | apply bwA | apply pwN | apply bw1 | refine below_set ?_ GE485.out | refine below_set ?_ GE502.out) | exact HB.out)) hb)
      clear HO_503000
      clear HO_503001
      clear HO508
      clear HO511
      clear BK485
      clear BK502
      clear HB
      have HO_503000 := n0_
      have HO_503001 := n1_
      have HO508 := n2_
      have HO511 := n3_
      have BK485 := n4_
      have BK502 := n5_
      have HB := n6_
      clear n0_ n1_ n2_ n3_ n4_ n5_ n6_
      (try clear hb)
      (try clear hb2)
      (try clear hk)
      (try clear hi)
      refine hK.out _ _ ⟨(blk_cell BK502.out 0).trans rfl, (blk_cell BK502.out 1).trans rfl, (blk_cell BK485.out 0).trans rfl, (blk_cell BK485.out 1).trans rfl⟩ (fun hHeld => ?_)
      clear hK K
      refine nm_ (some 51) ?_
      refine pure_ (i := 4) (N := some 52) (v := ?_) (a' := ?_) #[true, true, true, true, true] rfl rfl (by kernel_rfl) (fun _ _ _ h => h) (Or.inl ⟨by rfl, ?_⟩) ?_ ?_
      rotate_left
      ·intro w'
       go_simp
       with_reducible rfl
      rotate_left
      ·simp only [Act.put, List.setIfInBounds_toArray, List.set_cons_zero, List.set_cons_succ, i64_w, i32_w, u8_w_]
       rfl
      refine done_ (by kernel_rfl) ?_
      try go_wp2
      go_ret
      exact ⟨by first | rfl | (simp [errW_none, errW_some, i64_w]; done) | (simp [errW_none, errW_some] <;> rfl) | (simp [*, errW_none, errW_some] <;> rfl), by repeat (first | (with_reducible first | exact HB.out | apply bwA | apply pwN | apply bw1 | refine below_set ?_ GE485.out | refine below_set ?_ GE502.out) | exact HB.out)⟩
end Go.Proofs.Ytlepbhlbooajmaa.Q
namespace Go.Proofs.Ytlepbhlbooajmaa.Pure
open Go.RowKit Go.Proofs.Ytlepbhlbooajmaa.Ext Go.Proofs.Ytlepbhlbooajmaa.Q Go.Proofs.YtlepbhlbooajmaaW.PrintWords Go.Proofs.YtlepbhlbooajmaaW.PrintLast Go.Proofs.YtlepbhlbooajmaaW.PrintMore
set_option linter.unusedVariables false
set_option linter.unusedSimpArgs false
theorem greatestOf_law (L : List Lg) (M : List P2) (a : Int) (hL : L.length ≤ 9223372036854775807) (hM : M.length ≤ 9223372036854775807) (hw : wfL L M) {k : Nat} (hk : 6000000 < k) : laws_FnExactGreatestOf.f k L M a = some true := by
 obtain ⟨k, rfl⟩ : ∃ k', k = k' + 1 := ⟨k - 1, by omega⟩
 unfold laws_FnExactGreatestOf.f
 obtain ⟨r, hr, hb⟩ := szSystem_eq L M hL hM
 rw [hr, Option.bind_some]
 by_cases h0 : r < 0
 ·rw [if_pos h0]
 ·obtain ⟨b0, b1⟩ := hb (by omega)
  have b2 : (L.map toSg).length ≤ 1048576 := by simpa using b0
  rw [if_neg h0, toSystem_eq L M b0 b1 (by omega) (by omega), Option.bind_some]
  dsimp only
  rw [spec_great_eq (wf_of hw) a (by omega), Option.bind_some, Option.bind_some, impl_great_eq (wf_of hw) a, Option.bind_some, if_pos rfl, if_pos rfl, bne_self_eq_false]
  simp only [laws_FnExactGreatestOf.j0, Bool.false_eq_true, if_false]
  rw [toSystem_eq L M b0 b1 (by omega) (by omega), Option.bind_some]
  dsimp only
  rw [eqSystem_self _ _ b2 b1 (by omega) (by omega), Option.bind_some, if_pos rfl]
theorem greatestOf_walk (A0 : Option Addr) (c0 : Nat) (L : List Lg) (A1 : Option Addr) (c1 : Nat) (M : List P2) (hc0 : L.length ≤ c0) (hm0 : c0 ≤ 9223372036854775807) (hc1 : M.length ≤ c1) (hm1 : c1 ≤ 9223372036854775807) (hw : wfL L M) (a : Int) (w : World) (hr0 : Kd.C k113 w A0 L.length L) (hr1 : Kd.C k104 w A1 M.length M) :
  Calls Try.prog 3 #[.agg #[.slice A0 L.length c0, .slice A1 M.length c1], .int .i64 a] w fun e w' => e = .returned (.bool true) ∧ Below w.heap.size w w' :=
 laws_FnExactGreatestOf.calls 6000001 A0 c0 L A1 c1 M a true w hr0 hc0 hr1 hc1 (greatestOf_law L M a (by omega) (by omega) hw (by omega))
end Go.Proofs.Ytlepbhlbooajmaa.Pure
namespace Go.Proofs.Ytlepbhlbooajmaa.Open
open Go.ChangeShapes Go.WideShapes Go.ChangeAt Go.RowKit Go.Proofs.Ytlepbhlbooajmaa.Ext Go.Proofs.YtlepbhlbooajmaaW.PrintWords
set_option linter.unusedVariables false
set_option linter.unusedSimpArgs false
variable {H : Type} {enc : TypeId × Value → H} {P : Program} {w : World} {spare : Nat → Bool} {held : Bool} {t : TypeId}
theorem arr_list {k : IntKind} {n : Nat} {e : TypeId} {fuel : Nat} {cs : List Value} {x : DataW H × List MemPlace} (ht : P.underlying t = some (.array n e)) (he : P.underlying e = some (.int k)) (hc : P.cellsOf e = 1) (hn : P.cellsOf t = n)
  (h : DataW.trod enc P w 0 spare held fuel t cs = some x) : ∃ l : List Int, cs = nums k l ∧ l.length = n ∧ ∀ y ∈ l, (Lit.int k y).wf = true := by
 obtain ⟨xs, m, _, _, hl, hxs, hi⟩ := DataW.trod_array ht h
 rw [hn] at hl
 have each : ∀ i, i < n → ∃ y, cs[i]? = some (.int k y) ∧ (Lit.int k y).wf = true := by
  intro i hi'
  have h2 := hi i hi'
  rw [hc, Nat.mul_one] at h2
  obtain ⟨z, hz⟩ : ∃ z, xs[i]? = some z := ⟨xs[i]'(by omega), List.getElem?_eq_getElem (by omega)⟩
  rw [hz] at h2
  obtain ⟨y, hy, _, hw⟩ := DataW.trod_int he h2
  refine ⟨y, ?_, hw⟩
  have := congrArg (fun l => l[0]?) hy
  simpa [List.getElem?_take, List.getElem?_drop] using this
 refine ⟨cs.map fun v => (intOf v), ?_, by simpa using hl, ?_⟩
 ·apply List.ext_getElem?
  intro i
  by_cases hi' : i < n
  ·obtain ⟨y, hy, _⟩ := each i hi'
   simp [nums, hy, intOf]
  ·rw [List.getElem?_eq_none (by omega), List.getElem?_eq_none (by simp [nums]; omega)]
 ·intro y hy
  rw [List.mem_map] at hy
  obtain ⟨v, hv, rfl⟩ := hy
  obtain ⟨i, hi', rfl⟩ := List.mem_iff_getElem.1 hv
  obtain ⟨y, hy, hw⟩ := each i (by omega)
  rw [List.getElem?_eq_getElem hi'] at hy
  injection hy with hy
  rw [hy]; exact hw
theorem wf_i16 {y : Int} (h : (Lit.int .i16 y).wf = true) : -32768 ≤ y ∧ y ≤ 32767 := by simpa [Lit.wf, IntKind.min, IntKind.max, IntKind.signed, IntKind.bits] using h
theorem wf_u8 {y : Int} (h : (Lit.int .u8 y).wf = true) : 0 ≤ y ∧ y ≤ 255 := by simpa [Lit.wf, IntKind.min, IntKind.max, IntKind.signed, IntKind.bits] using h
open Go.ChangeShapes Go.WideShapes Go.ChangeAt Go.RowKit Go.Deep Go.Proofs.Ytlepbhlbooajmaa.Ext Go.Proofs.Ytlepbhlbooajmaa.Q Go.Proofs.YtlepbhlbooajmaaW.PrintWords
variable {H : Type} {enc : TypeId × Value → H} {P : Program} {w : World} {spare : Nat → Bool} {held : Bool}
instance : Inhabited S113 := ⟨z113⟩
instance : Inhabited S104 := ⟨z104⟩
theorem open_sgs {t e : TypeId} {f0 f1 : Field} {fuel : Nat} {cs : List Value} {x : DataW H × List MemPlace} (ht : P.underlying t = some (.slice e)) (he : P.underlying e = some (.struct #[f0, f1])) (ce : P.cellsOf e = 2) (o0 : f0.offset = 0) (o1 : f1.offset = 1) (c0 : P.cellsOf f0.type = 1) (c1 : P.cellsOf f1.type = 1)
  (u0 : P.underlying f0.type = some (.int .u8)) (u1 : P.underlying f1.type = some (.int .i16))
  (h : DataW.trod enc P w 0 spare held fuel t cs = some x) :
  ∃ (A : Option Addr) (c : Nat) (ps : List S113), cs = [.slice A ps.length c] ∧ ps.length ≤ c ∧ c ≤ maxLen ∧ Kd.C k113 w A ps.length ps ∧ ∀ q ∈ ps, (0 ≤ q.f0 ∧ q.f0 ≤ 255) ∧ (-32768 ≤ q.f1 ∧ q.f1 ≤ 32767) := by
 rcases open_slice ht h with ⟨rfl, _⟩ | ⟨a, len, cap, m, n, D, Pl, rfl, hb, hl, hm, hmm, rfl, hx⟩
 ·exact ⟨none, 0, [], rfl, Nat.le_refl _, Nat.zero_le _, ⟨rfl, by simp, fun hp => absurd hp (by simp)⟩, by simp⟩
 have hlm : len ≤ m := by rw [hmm]; split <;> omega
 have each : ∀ i, i < len → ∃ q : S113, (w.cell? (a.add (i * 2)) = some (.int .u8 q.f0) ∧ w.cell? (a.add (i * 2 + 1)) = some (.int .i16 q.f1)) ∧ (0 ≤ q.f0 ∧ q.f0 ≤ 255) ∧ (-32768 ≤ q.f1 ∧ q.f1 ≤ 32767) := by
  intro i hi
  obtain ⟨cs', h1, h2⟩ := hx i (by omega)
  rw [ce] at h1
  obtain ⟨_, hlen, hcell⟩ := World.cells?_some h1
  obtain ⟨xs, k, hk, hxy, _, hxl, hf⟩ := DataW.trod_struct he h2
  match xs, hxl, cs', hlen with
  | [y0, y1], _, [v0, v1], _ =>
   have g0 := hf 0 f0 rfl
   have g1 := hf 1 f1 rfl
   simp [o0, o1, c0, c1] at g0 g1
   obtain ⟨z0, q0, _, w0⟩ := DataW.trod_int u0 g0
   obtain ⟨z1, q1, _, w1⟩ := DataW.trod_int u1 g1
   obtain rfl : v0 = .int .u8 z0 := by simpa using q0
   obtain rfl : v1 = .int .i16 z1 := by simpa using q1
   have e0 := hcell 0 (by omega)
   have e1 := hcell 1 (by omega)
   rw [Deep.add_add] at e0 e1
   exact ⟨⟨z0, z1⟩, ⟨by simpa using e0, by simpa using e1⟩, wf_u8 w0, wf_i16 w1⟩
 obtain ⟨q, hq⟩ := choose_lt each
 refine ⟨some a, cap, (List.range len).map q, by simp, by simpa using hl, hm, ⟨by simp, by simp; unfold maxLen at hm; omega, fun hp => ⟨a, rfl, fun j p hj => ?_⟩⟩, ?_⟩
 ·obtain ⟨hlt, rfl⟩ := List.getElem?_eq_some_iff.1 hj
  have hjl : j < len := by simpa using hlt
  obtain ⟨⟨h0, h1⟩, _⟩ := hq j hjl
  refine ⟨[.int .u8 (q j).f0, .int .i16 (q j).f1], rfl, by simpa using k113_mk w (q j), fun i u hi => ?_⟩
  match i, hi with
  | 0, hi => simp at hi; subst hi; exact h0
  | 1, hi => simp at hi; subst hi; exact h1
 ·intro p hp
  rw [List.mem_map] at hp
  obtain ⟨j, hj, rfl⟩ := hp
  exact (hq j (by simpa using hj)).2
theorem open_p2s {t e b : TypeId} {fuel : Nat} {cs : List Value} {x : DataW H × List MemPlace} (ht : P.underlying t = some (.slice e)) (he : P.underlying e = some (.array 2 b)) (hb8 : P.underlying b = some (.int .u8)) (cb : P.cellsOf b = 1) (ce : P.cellsOf e = 2)
  (h : DataW.trod enc P w 0 spare held fuel t cs = some x) :
  ∃ (A : Option Addr) (c : Nat) (ps : List S104), cs = [.slice A ps.length c] ∧ ps.length ≤ c ∧ c ≤ maxLen ∧ Kd.C k104 w A ps.length ps ∧ ∀ q ∈ ps, (0 ≤ q.f0 ∧ q.f0 ≤ 255) ∧ (0 ≤ q.f1 ∧ q.f1 ≤ 255) := by
 rcases open_slice ht h with ⟨rfl, _⟩ | ⟨a, len, cap, m, n, D, Pl, rfl, hb, hl, hm, hmm, rfl, hx⟩
 ·exact ⟨none, 0, [], rfl, Nat.le_refl _, Nat.zero_le _, ⟨rfl, by simp, fun hp => absurd hp (by simp)⟩, by simp⟩
 have hlm : len ≤ m := by rw [hmm]; split <;> omega
 have each : ∀ i, i < len → ∃ q : S104, (w.cell? (a.add (i * 2)) = some (.int .u8 q.f0) ∧ w.cell? (a.add (i * 2 + 1)) = some (.int .u8 q.f1)) ∧ (0 ≤ q.f0 ∧ q.f0 ≤ 255) ∧ (0 ≤ q.f1 ∧ q.f1 ≤ 255) := by
  intro i hi
  obtain ⟨cs', h1, h2⟩ := hx i (by omega)
  rw [ce] at h1
  obtain ⟨_, hlen, hcell⟩ := World.cells?_some h1
  obtain ⟨l, q1, q2, q3⟩ := arr_list he hb8 cb ce h2
  match l, q2 with
  | [z0, z1], _ =>
   have q1' : cs' = [.int .u8 z0, .int .u8 z1] := q1
   subst q1'
   have e0 := hcell 0 (by omega)
   have e1 := hcell 1 (by omega)
   rw [Deep.add_add] at e0 e1
   exact ⟨⟨z0, z1⟩, ⟨by simpa using e0, by simpa using e1⟩, wf_u8 (q3 z0 (by simp)), wf_u8 (q3 z1 (by simp))⟩
 obtain ⟨q, hq⟩ := choose_lt each
 refine ⟨some a, cap, (List.range len).map q, by simp, by simpa using hl, hm, ⟨by simp, by simp; unfold maxLen at hm; omega, fun hp => ⟨a, rfl, fun j p hj => ?_⟩⟩, ?_⟩
 ·obtain ⟨hlt, rfl⟩ := List.getElem?_eq_some_iff.1 hj
  have hjl : j < len := by simpa using hlt
  obtain ⟨⟨h0, h1⟩, _⟩ := hq j hjl
  refine ⟨[.int .u8 (q j).f0, .int .u8 (q j).f1], rfl, by simpa using k104_mk w (q j), fun i u hi => ?_⟩
  match i, hi with
  | 0, hi => simp at hi; subst hi; exact h0
  | 1, hi => simp at hi; subst hi; exact h1
 ·intro p hp
  rw [List.mem_map] at hp
  obtain ⟨j, hj, rfl⟩ := hp
  exact (hq j (by simpa using hj)).2
theorem open_sys {r : Reach} {b0 : Nat} {t : TypeId} {f0 f1 g0 g1 : Field} {e ep b : TypeId} {v : Value} {d : DataW H} {p : List MemPlace} (ht : P.underlying t = some (.struct #[f0, f1])) (o0 : f0.offset = 0) (o1 : f1.offset = 1) (c0 : P.cellsOf f0.type = 1) (c1 : P.cellsOf f1.type = 1) (hC : P.cellsOf t = 2)
  (h0 : P.underlying f0.type = some (.slice e)) (he : P.underlying e = some (.struct #[g0, g1])) (ce : P.cellsOf e = 2) (p0 : g0.offset = 0) (p1 : g1.offset = 1) (d0 : P.cellsOf g0.type = 1) (d1 : P.cellsOf g1.type = 1) (u0 : P.underlying g0.type = some (.int .u8)) (u1 : P.underlying g1.type = some (.int .i16))
  (h1 : P.underlying f1.type = some (.slice ep)) (hep : P.underlying ep = some (.array 2 b)) (hb8 : P.underlying b = some (.int .u8)) (cb : P.cellsOf b = 1) (cp : P.cellsOf ep = 2)
  (hv : Value.okWide P w r b0 t v) (h : DataW.Trod enc P w 0 spare held t v d p) :
  ∃ (A : Option Addr) (c : Nat) (ps : List S113) (A1 : Option Addr) (k1 : Nat) (ms : List S104), v = .agg #[.slice A ps.length c, .slice A1 ms.length k1] ∧ ps.length ≤ c ∧ c ≤ maxLen ∧ Kd.C k113 w A ps.length ps ∧ (∀ q ∈ ps, (0 ≤ q.f0 ∧ q.f0 ≤ 255) ∧ (-32768 ≤ q.f1 ∧ q.f1 ≤ 32767)) ∧
   ms.length ≤ k1 ∧ k1 ≤ maxLen ∧ Kd.C k104 w A1 ms.length ms ∧ ∀ q ∈ ms, (0 ≤ q.f0 ∧ q.f0 ≤ 255) ∧ (0 ≤ q.f1 ∧ q.f1 ≤ 255) := by
 obtain ⟨cs, rfl, _⟩ := okWide_struct ht hv
 obtain ⟨fuel, hf⟩ := h
 obtain ⟨xs, m, _, _, hl, hxs, hi⟩ := DataW.trod_struct ht hf
 have hlen : xs.length = 2 := by simpa using hxs
 rw [hC] at hl
 have get : ∀ i, i < 2 → ∃ z, xs[i]? = some z := fun i hi' => ⟨xs[i]'(by omega), List.getElem?_eq_getElem (by omega)⟩
 have e0 := hi 0 f0 rfl
 have e1 := hi 1 f1 rfl
 obtain ⟨z0, hz0⟩ := get 0 (by omega)
 obtain ⟨z1, hz1⟩ := get 1 (by omega)
 rw [hz0, o0, c0, List.drop_zero] at e0
 rw [hz1, o1, c1] at e1
 obtain ⟨A, c, ps, s1, s2, s3, s4, s5⟩ := open_sgs h0 he ce p0 p1 d0 d1 u0 u1 e0
 obtain ⟨A1, k1, ms, t1, t2, t3, t4, t5⟩ := open_p2s h1 hep hb8 cb cp e1
 refine ⟨A, c, ps, A1, k1, ms, ?_, s2, s3, s4, s5, t2, t3, t4, t5⟩
 have e : (Value.agg cs).cells.toList = [.slice A ps.length c, .slice A1 ms.length k1] := by
  generalize (Value.agg cs).cells.toList = L at *
  match L, hl with
  | [a, b], _ =>
   have q0 : a = .slice A ps.length c := by simpa using s1
   have q1 : b = .slice A1 ms.length k1 := by simpa using t1
   rw [q0, q1]
 congr 1
 apply Array.toList_inj.1
 simpa [Value.cells] using e
end Go.Proofs.Ytlepbhlbooajmaa.Open
